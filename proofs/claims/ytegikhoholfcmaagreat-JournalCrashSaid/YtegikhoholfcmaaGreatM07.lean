/-
  Part 7 of the proof: V90, K20, K21, SxV, V106, K22, V105, K23, V43, K24, K25, V149, V107, V108, V150, V40, V41, V103, K26, K27, K28, V36, V46, V47.
-/
import Derived.Test.YtegikhoholfcmaaGreatM06
namespace Go.Sx.Tryz
open Go Go.Sx Go.Proofs
set_option maxRecDepth 100000
set_option linter.unusedVariables false
noncomputable def c90 : Code := (Tryz.f90.body).getD .skip
def a90 : Ann := (.seq .leaf (.seq (.inn (.seq .leaf (.br (.seq .leaf .leaf) (.seq .leaf (.br (.seq .leaf .leaf) .leaf))))) (.seq .leaf .leaf)))
theorem ok90 : okC tab 15 true c90 a90 = true := by kernel_rfl
theorem vc90 (j_b j_o : Nat) (h_0 : Int) (h_1 : Bool) (h_2 : Int) (h_3 : Int) (h : Heap) (R : Value → Heap → Prop)
  (hv : ∀ b1 h1, Fresh h (.cells #[.int .u64 h_0, .bool h_1, .int .u64 h_2, .int .u64 h_3] 103) b1 h1 →
   CallsH Tryz.prog 86 #[.pointer (some ⟨j_b, j_o, none⟩)] h1 (fun r1 h2 => ∃ x1 : Sl, r1 = .slice x1.a x1.l x1.c ∧
   CondP ((((x1.l : Nat) : Int) : Int) == 0) (
   R (.int .i64 50) h2) (
   ∃ n1 : Int, ∃ t1 : Bool, ∃ n2 : Int, ∃ n3 : Int, CellsAt h2 b1 0 [.int .u64 n1, .bool t1, .int .u64 n2, .int .u64 n3] ∧
   CallsH Tryz.prog 42 #[.pointer (some ⟨j_b, j_o, none⟩), .agg #[.int .u64 n1, .bool t1, .int .u64 n2, .int .u64 n3]] h2 (fun r2 h3 => ∃ t2 : Bool, r2 = .bool t2 ∧
   CondP (!t2) (
   R (.int .i64 70) h3) (
   R (.int .i64 0) h3))))) :
  CallsH Tryz.prog 90 #[.pointer (some ⟨j_b, j_o, none⟩), .agg #[.int .u64 h_0, .bool h_1, .int .u64 h_2, .int .u64 h_3]] h R :=
  calls_of_vc tabOk mixed Tryz.func90 (c := c90) (by kernel_rfl) (n := 15) rfl (rs := [.tmp 4]) (by kernel_rfl) ok90 (args := [.pointer (some ⟨j_b, j_o, none⟩), .agg #[.int .u64 h_0, .bool h_1, .int .u64 h_2, .int .u64 h_3]]) (Nat.le_of_ble_eq_true rfl) (Eq.mpr (by kernel_rfl) hv)
end Go.Sx.Tryz
namespace Go.Sx.Tryz
open Go Go.Sx Go.Proofs
set_option linter.unusedVariables false
section
variable {H H' : Heap} {S : PH} {R : List Asn} {jb : Nat} {J : Jn}
theorem el95 : ElemOk Tryz.prog 95 107 5 40 := ElemOk.mk' (z := .agg #[.int .i64 0, .int .u64 0, .bool false, .int .u64 0, .int .u64 0]) Tryz.underlying95 (by kernel_rfl) rfl (by decide)
theorem segV_one (l : List Seg) : ∀ u ∈ segV l, u.oneCell' = true := by
  intro u hu
  obtain ⟨x, _, hx⟩ := List.mem_flatMap.1 hu
  simp only [segV1, hdV, List.mem_cons, List.not_mem_nil, or_false] at hx
  rcases hx with rfl | rfl | rfl | rfl | rfl <;> rfl
def Jn.fix (J : Jn) (h : Hd) : Hd := match J.segs.getLast? with | some x => { h with serial := x.head.serial + 1 } | none => h
def Jn.put (J : Jn) (x : Seg) : Jn := { J with segs := J.segs ++ [x] }
def Jn.start (J : Jn) (D : Dk) (h : Hd) : Bool × Dk × Jn := match J.free with
  | [] => (false, D, J)
  | n :: _ => if (J.write D n (parcelB 1 (J.fix h).body)).1 = true then (true, (J.write D n (parcelB 1 (J.fix h).body)).2.1, (J.write D n (parcelB 1 (J.fix h).body)).2.2.put ⟨n, J.fix h⟩)
    else (false, (J.write D n (parcelB 1 (J.fix h).body)).2.1, (J.write D n (parcelB 1 (J.fix h).body)).2.2)
theorem write_segs (J : Jn) (D : Dk) (f : Nat) (xs : List UInt8) : (J.write D f xs).2.2.segs = J.segs ∧ (J.write D f xs).2.2.d = J.d ∧ (J.write D f xs).2.2.log = J.log ∧ (J.write D f xs).2.2.first = J.first ∧ (J.write D f xs).2.2.many = J.many ∧ (J.write D f xs).2.2.each = J.each := by
  simp only [Jn.write]; split <;> exact ⟨rfl, rfl, rfl, rfl, rfl, rfl⟩
theorem free_lt {n : Nat} (hb : J.first + J.many ≤ 32) (h : n ∈ J.free) : n < 32 := by
  unfold Jn.free at h
  split at h
  · cases h
  · unfold Jn.freeL at h
    obtain ⟨h, _⟩ := List.mem_filter.1 h
    obtain ⟨k, hk, rfl⟩ := List.mem_map.1 h
    have := List.mem_range.1 hk; omega
theorem put_seg {J : Jn} {ve vs vs' : Sl} {x : Seg} {h14 : Heap} (hs : Sat h14 S (ownS vs' (J.segs ++ [x]) :: lst jb 97 (jcs J ve vs) :: ownE ve J.log.es :: R)) {K : Heap → Prop} (hK : ∀ H', Sat H' S (jA jb (J.put x) :: R) → K H') :
    CanSt h14 jb 8 [.slice vs'.a vs'.l vs'.c] ∧ ∀ h15, Stored h14 jb 8 [.slice vs'.a vs'.l vs'.c] h15 → K h15 := by
  refine (hs.pick 1 rfl).store (by simp [jcs, lgV]) fun h15 hs2 => hK h15 (jA_shut (ve := ve) (vs := vs') ?_)
  exact hs2.sel [0, 1]
theorem start_spec {D : Dk} {h : Hd} (hs : Sat H S (jA jb J :: dsk J.d D :: R)) (hb : J.first + J.many ≤ 32) (hsl : J.segs.length < 1000000) (hok : (J.fix h).ok)
    {K : Value → Heap → Prop} (hK : ∀ H' S', PH.le S S' → Sat H' S' (jA jb (J.start D h).2.2 :: dsk J.d (J.start D h).2.1 :: R) → K (.bool (J.start D h).1) H') : CallsH Tryz.prog 42 #[.pointer (some ⟨jb, 0, none⟩), .agg (hdV h).toArray] H K := by
  apply vc42
  intro b1 h1 f1
  have hs1 : Sat h1 S (lst b1 103 (hdV h) :: jA jb J :: dsk J.d D :: R) := hs.fresh f1
  refine free_spec hs1.swap hb hsl fun x h2 hs2 => ⟨x, rfl, ?_⟩
  have hxl := (ownI.len hs2).1
  refine CondP.of (fun hc => ?_) (fun hc => ?_)
  · have h0 : J.free = [] := List.eq_nil_of_length_eq_zero (by simp at hc; omega)
    have e : J.start D h = (false, D, J) := by rw [Jn.start, h0]
    have := hK h2 S (PH.le.refl _) (by rw [e]; exact (hs2.drop).del 1)
    rw [e] at this; exact this
  obtain ⟨n, fl, hfree⟩ : ∃ n fl, J.free = n :: fl := by
    cases hf : J.free with
    | nil => rw [hf] at hxl; simp at hxl; simp [hxl] at hc
    | cons n fl => exact ⟨n, fl, rfl⟩
  have hn32 : n < 32 := free_lt hb (by rw [hfree]; exact List.mem_cons_self)
  obtain ⟨g, ga, gc⟩ := ownI.at hs2 (k := 0) (by rw [hfree]; simp)
  have gc0 : cellH h2 g 0 = some (.int .i64 (n : Int)) := by
    have := gc 0 (by rw [hfree]; simp)
    simp only [hfree, List.getElem_cons_zero] at this
    exact this
  have hxp : 0 < x.l := by rw [hxl, hfree]; simp
  refine ⟨⟨by omega, by omega⟩, NilP.of ga ⟨_, gc0, fun h3 => Sat h3 S (lst b1 103 (hdV (J.fix h)) :: jA jb J :: dsk J.d D :: R), ?_, ?_⟩⟩
  · intro h3 hs3 _ b3 h4 f4
    have hs4 : Sat h4 S (lst b3 145 [.slice none 0 0] :: lst b1 103 (hdV (J.fix h)) :: jA jb J :: dsk J.d D :: R) := hs3.fresh f4
    have hw : Sat h4 S (wr b3 [] :: lst b1 103 (hdV (J.fix h)) :: jA jb J :: dsk J.d D :: R) := wr_shut (v := ⟨none, 0, 0⟩) (own.new 5 1 hs4).swap
    obtain ⟨k1, k2, k3⟩ := hok
    have hbl := (J.fix h).body_len ⟨k1, k2, k3⟩
    have hbe : (J.fix h).body = natB (J.fix h).serial ++ flagB (J.fix h).anew ++ (natB (J.fix h).i ++ natB (J.fix h).t) := rfl
    refine ⟨_, (hw.pick 1 rfl).cell 0 rfl, ?_⟩
    intro b4 h5 f5
    refine Nat_new f5 hw (ns := [(J.fix h).serial]) rfl (by intro m hm; simp at hm; subst hm; unfold MaxI at k1; omega) (by simp) (by simp) rfl fun h6 hs6 => ⟨rfl, ?_⟩
    refine ⟨_, (hs6.pick 1 rfl).cell 1 rfl, ?_⟩
    have hn10 := natB_le (n := (J.fix h).serial) (by unfold MaxI at k1; omega)
    have hf10 : (flagB (J.fix h).anew).length ≤ 10 := natB_le (by split <;> omega)
    refine Flag_spec hs6 (by simp [nats]; omega) fun h7 hs7 => ⟨rfl, _, (hs7.pick 1 rfl).cell 2 rfl, _, (hs7.pick 1 rfl).cell 3 rfl, ?_⟩
    intro b5 h8 f8
    refine Nat_new f8 hs7 (ns := [(J.fix h).i, (J.fix h).t]) rfl (by intro m hm; simp at hm; unfold MaxI at k2 k3; rcases hm with rfl | rfl <;> omega) (by simp [nats]; omega) (by simp) rfl fun h9 hs9 => ⟨rfl, ?_⟩
    have e1 : ([] ++ nats [(J.fix h).serial] ++ flagB (J.fix h).anew ++ nats [(J.fix h).i, (J.fix h).t]) = (J.fix h).body := by
      rw [hbe]; simp [nats]
    rw [e1] at hs9
    refine Bytes_spec hs9 (by omega) fun x2 h10 S1 hS1 hs10 hr10 => ⟨x2, rfl, ?_⟩
    refine Wrap_spec hs10 hr10 (kind := 1) (by decide) (by omega) fun x3 h11 S2 hS2 hs11 => ⟨x3, _, rfl, ?_⟩
    obtain ⟨S3, q1, q2, q3⟩ := own.fixd hs11
    have hpl := parcelB_len 1 (J.fix h).body
    have hn10 := natB_le (n := (J.fix h).body.length) (by omega)
    refine write_spec (f := n) hn32 (q3.sel [2, 2]) q2 (by rw [hpl]; omega) fun h12 hs12 => ⟨_, rfl, ?_⟩
    have hle := (hS1.trans hS2).trans q1
    refine CondP.of (fun hc => ?_) (fun hc => ?_)
    · have hw1 : ¬ (J.write D n (parcelB 1 (J.fix h).body)).1 = true := by simpa using hc
      have e : J.start D h = (false, (J.write D n (parcelB 1 (J.fix h).body)).2.1, (J.write D n (parcelB 1 (J.fix h).body)).2.2) := by simp only [Jn.start, hfree, if_neg hw1]
      have := hK h12 S3 hle (by rw [e]; exact (hs12.del 2).del 2)
      rw [e] at this; exact this
    · have hw1 : (J.write D n (parcelB 1 (J.fix h).body)).1 = true := by simpa using hc
      have e : J.start D h = (true, (J.write D n (parcelB 1 (J.fix h).body)).2.1, (J.write D n (parcelB 1 (J.fix h).body)).2.2.put ⟨n, J.fix h⟩) := by simp only [Jn.start, hfree, if_pos hw1]
      obtain ⟨w1, w2, w3, w4, w5, w6⟩ := write_segs J D n (parcelB 1 (J.fix h).body)
      generalize J.write D n (parcelB 1 (J.fix h).body) = W at hs12 e w1 w2 w3 w4 w5 w6
      obtain ⟨ve, vs, hs13⟩ := jA_open hs12
      have hc8 := hs13.cell 8 (v := .slice vs.a vs.l vs.c) rfl
      refine ⟨vs, hc8, _, _, _, _, (hs13.pick 5 rfl).cells 0 rfl, ?_⟩
      intro b6 h13 f13
      have hs14 : Sat h13 S3 (lst b6 107 (segV1 ⟨n, J.fix h⟩) :: lst jb 97 (jcs W.2.2 ve vs) :: ownE ve W.2.2.log.es :: ownS vs W.2.2.segs :: dsk J.d W.2.1 :: wr b3 (J.fix h).body :: lst b1 103 (hdV (J.fix h)) :: R) := hs13.fresh f13
      refine ⟨hs14.swap.cell 8 rfl, ?_⟩
      have hvl := (ownS.len (hs14.pick 3 rfl)).1
      rw [w1] at hvl
      refine append_one el95 (v := vs) (xs := segV W.2.2.segs) (hs14.sel [0, 2]) rfl (by intro u hu; simp [segV1, hdV] at hu; rcases hu with rfl | rfl | rfl | rfl | rfl <;> rfl) (by omega) (by unfold maxLen; omega) fun vs' h14 hv' hs15 => ?_
      have e3 : segV W.2.2.segs ++ segV1 ⟨n, J.fix h⟩ = segV (W.2.2.segs ++ [⟨n, J.fix h⟩]) := by simp [segV]
      rw [e3] at hs15
      refine put_seg (J := W.2.2) (ve := ve) (vs := vs) (vs' := vs') (x := ⟨n, J.fix h⟩) hs15 fun h15 hs16 => ?_
      have := hK h15 S3 hle (by rw [e]; exact (hs16.del 2).del 2)
      rw [e] at this; exact this
  · have hs3 : Sat h2 S (jA jb J :: lst b1 103 (hdV h) :: dsk J.d D :: R) := hs2.drop
    obtain ⟨ve, vs, hs4⟩ := jA_open hs3
    have hvl := (ownS.len (hs4.pick 2 rfl)).1
    have hc8 := hs4.cell 8 (v := .slice vs.a vs.l vs.c) rfl
    refine ⟨vs, hc8, CondP.of (fun hc => ⟨vs, hc8, vs, hc8, ?_⟩) (fun hc => ?_)⟩
    · have h0 : 0 < J.segs.length := by simp at hc; omega
      obtain ⟨k, hk⟩ : ∃ k, J.segs.length = k + 1 := ⟨J.segs.length - 1, by omega⟩
      have ew : IntKind.i64.wrap (((vs.l : Nat) : Int) - 1) = (k : Int) := by rw [i64_in (by omega) (by omega)]; omega
      rw [ew]
      obtain ⟨g2, ga2, gc2⟩ := ownS.at (hs4.pick 2 rfl) (k := k) (by omega)
      have hfx : J.fix h = { h with serial := (J.segs[k]'(by omega)).head.serial + 1 } := by
        unfold Jn.fix
        rw [List.getLast?_eq_getElem?, show J.segs.length - 1 = k by omega, List.getElem?_eq_getElem (by omega)]
      have hser : (J.segs[k]'(by omega)).head.serial + 1 ≤ MaxI := by have := hok.1; rw [hfx] at this; exact this
      refine ⟨⟨by omega, by omega⟩, NilP.of ga2 ⟨((J.segs[k]'(by omega)).head.serial : Int), ?_, ?_⟩⟩
      · have := gc2.get 1 _ rfl
        simpa using this
      · rw [u64_in (by omega) (by unfold MaxI at hser; omega)]
        refine (hs3.swap).store (by simp [hdV]) fun h16 hs5 => ?_
        rw [hfx]
        exact hs5
    · have h0 : J.segs = [] := List.eq_nil_of_length_eq_zero (by simp at hc; omega)
      have hfx : J.fix h = h := by rw [Jn.fix, h0]; rfl
      rw [hfx]; exact hs3.swap
end
end Go.Sx.Tryz
namespace Go.Sx.Tryz
open Go Go.Sx Go.Proofs
set_option linter.unusedVariables false
section
variable {H H' : Heap} {S : PH} {R : List Asn} {jb : Nat} {J : Jn}
def Jn.another (J : Jn) (D : Dk) (h : Hd) : Nat × Dk × Jn := if J.free = [] then (50, D, J) else ((if (J.start D h).1 = true then 0 else 70), (J.start D h).2)
theorem another_spec {D : Dk} {h : Hd} (hs : Sat H S (jA jb J :: dsk J.d D :: R)) (hb : J.first + J.many ≤ 32) (hsl : J.segs.length < 1000000) (hok : J.free ≠ [] → (J.fix h).ok)
    {K : Value → Heap → Prop} (hK : ∀ H' S', PH.le S S' → Sat H' S' (jA jb (J.another D h).2.2 :: dsk J.d (J.another D h).2.1 :: R) → K (.int .i64 ((J.another D h).1 : Int)) H') : CallsH Tryz.prog 90 #[.pointer (some ⟨jb, 0, none⟩), .agg (hdV h).toArray] H K := by
  apply vc90
  intro b1 h1 f1
  have hs1 : Sat h1 S (lst b1 103 (hdV h) :: jA jb J :: dsk J.d D :: R) := hs.fresh f1
  refine free_spec hs1.swap hb hsl fun x h2 hs2 => ⟨x, rfl, ?_⟩
  have hxl := (ownI.len hs2).1
  refine CondP.of (fun hc => ?_) (fun hc => ?_)
  · have h0 : J.free = [] := List.eq_nil_of_length_eq_zero (by simp at hc; omega)
    have e : J.another D h = (50, D, J) := by rw [Jn.another, if_pos h0]
    have := hK h2 S (PH.le.refl _) (by rw [e]; exact (hs2.drop).del 1)
    rw [e] at this; exact this
  · have h0 : J.free ≠ [] := by
      intro h0
      rw [h0] at hxl
      have : x.l = 0 := hxl
      rw [this] at hc; simp at hc
    have e : J.another D h = ((if (J.start D h).1 = true then 0 else 70), (J.start D h).2) := by rw [Jn.another, if_neg h0]
    refine ⟨_, _, _, _, (hs2.pick 2 rfl).cells 0 rfl, ?_⟩
    have hs3 : Sat h2 S (jA jb J :: dsk J.d D :: R) := (hs2.drop).del 1
    refine start_spec hs3 hb hsl (hok h0) fun h3 S1 hS1 hs4 => ⟨_, rfl, ?_⟩
    have := hK h3 S1 hS1 (by rw [e]; exact hs4)
    rw [e] at this
    refine CondP.of (fun hc => ?_) (fun hc => ?_)
    · have hf : ¬ (J.start D h).1 = true := by simpa using hc
      simp only [if_neg hf] at this; exact this
    · have hf : (J.start D h).1 = true := by simpa using hc
      simp only [if_pos hf] at this; exact this
end
end Go.Sx.Tryz
namespace Go.Sx
set_option linter.unusedVariables false
section
variable {H H' : Heap} {S : PH} {L : List Asn}
theorem own.shrink {T : TypeId} {sz : Nat} {v : Sl} {xs : List Value} {k : Nat} (h : Sat H S (own T sz v xs :: L)) (hk : k ≤ v.l) (hv : 0 < v.l) : Sat H S (own T sz ⟨v.a, k, v.c⟩ (xs.take (k * sz)) :: L) := by
  refine h.weak fun q hq => ?_
  obtain ⟨h1, h2⟩ := hq
  rcases h2 with ⟨rfl, rfl⟩ | ⟨g, cur, g1, g2, g3, g4, g5, g6⟩
  · simp at hv
  · have hm := Nat.mul_le_mul_right sz hk
    refine ⟨by show (xs.take (k * sz)).length = k * sz; rw [List.length_take]; omega, .inr ⟨g, cur, g1, g2, Nat.le_trans hk g3, g4, g5, ?_⟩⟩
    show cur.toList.take (k * sz) = _
    rw [← g6, List.take_take, Nat.min_eq_left hm]
theorem append_room {P : Program} {t ty e : TypeId} {sz bytes : Nat} (he : ElemOk P t e sz bytes) {v : Sl} {xs : List Value} (h : Sat H S (own e sz v xs :: L)) {g : Nat} (hg : v.a = some ⟨g, 0, none⟩) {a : Addr} {m c : Nat} {news : List Value}
    (hl : news.length = m * sz) (hx : ∀ j u, news[j]? = some u → ∀ w : World, w.heap = H → w.cell? (a.add j) = some u) (h1 : ∀ u ∈ news, u.oneCell' = true) (hroom : v.l + m ≤ v.c)
    {K : Sl → Heap → Prop} (hk : ∀ H', Sat H' S (own e sz ⟨v.a, v.l + m, v.c⟩ (xs ++ news) :: L) → K ⟨v.a, v.l + m, v.c⟩ H') :
    RunK P .sl (Builtin.append_ #[t, t] ty #[.slice v.a v.l v.c, .slice (some a) m c]) H K := by
  intro w hw
  obtain ⟨i, z, hi, hz, hs, hby, hzs⟩ := he.info
  have hlen := own.len h
  have hll : (xs ++ news).length = (v.l + m) * sz := by rw [List.length_append, hlen.1, hl, Nat.add_mul]
  rcases own.row h hw with ⟨rfl, rfl⟩ | ⟨g', cur, ga, gb, gc, gm, gz, gt⟩
  · cases hg
  · rw [hg] at ga; cases ga
    have hfit : v.l * sz + news.length ≤ cur.size := by
      have := Nat.mul_le_mul_right sz hroom
      rw [Nat.add_mul] at this
      omega
    have hr := run_append_room (P := P) w t ty e i he.und hi g v.l v.c cur gb a m c news (by rw [hs]; exact hl) (fun j u hu => hx j u hu w hw) h1 hroom (by rw [hs]; exact hfit)
    rw [hs] at hr
    rw [hg]
    refine ⟨⟨v.a, v.l + m, v.c⟩, w.setRow g (cur.toList.take (v.l * sz) ++ news ++ cur.toList.drop (v.l * sz + news.length)).toArray, by rw [hr, ← hg]; rfl, ⟨rfl, rfl, rfl⟩, hk _ (h.regrow (v' := ⟨v.a, v.l + m, v.c⟩) (fun d hd hne => ?_) hll (.inr ⟨g, _, hg, .inl hg, setRow_heap w g cur _ e _ gb, hroom, gm, ?_, ?_⟩))⟩
    · rw [setRow_other w g d _ (hne g hg), hw]
    · simp only [List.size_toArray, List.length_append, List.length_take, List.length_drop, Array.length_toList]
      omega
    · rw [gt, ← hll]
      exact List.take_left
theorem clear_tail {P : Program} {t e : TypeId} {sz bytes ty : Nat} (he : ElemOk P t e sz bytes) (hz1 : ∀ i z, P.info? e = some i → i.zero = some z → ∀ u ∈ z.cells.toList, u.oneCell' = true) {v : Sl} {xs : List Value} (h : Sat H S (own e sz v xs :: L)) {g : Nat} (hg : v.a = some ⟨g, 0, none⟩) {n c : Nat} (hn : v.l + n ≤ v.c)
    {K : Value → Heap → Prop} (hk : ∀ H', Sat H' S (own e sz v xs :: L) → K (.tuple #[]) H') :
    RunK P .v (Builtin.clear_ #[t] ty #[.slice (subA v.a v.l v.c sz) n c]) H K := by
  intro w hw
  obtain ⟨i, z, hi, hz, hs, hby, hzs⟩ := he.info
  have hlen := own.len h
  rcases own.row h hw with ⟨rfl, rfl⟩ | ⟨g', cur, ga, gb, gc, gm, gz, gt⟩
  · cases hg
  · rw [hg] at ga; cases ga
    rcases Nat.eq_zero_or_pos n with h0 | h0
    · subst h0
      refine ⟨.tuple #[], w, ?_, SameW.refl _, hk _ (by rw [hw]; exact h)⟩
      cases hsub : subA v.a v.l v.c sz <;> simp [Builtin.clear_, run_underlying he.und, K1.mk, Result.andThen]
    · have hsub : subA v.a v.l v.c sz = some ⟨g, v.l * sz, none⟩ := by
        unfold subA
        rw [if_neg (by omega), hg]
        simp [addr_add]
      have hzero : (zeroValue e).run P w = .ok z w := by simp only [zeroValue, Sem.run_bind, run_info hi, Result.andThen_ok, hz, Sem.run_pure]
      have hzl : (Builtin.zeroCells z.cells n).toList.length = n * sz := by rw [Array.length_toList, size_zeroCells, hzs]
      have hfit : v.l * sz + 0 + (Builtin.zeroCells z.cells n).toList.length ≤ cur.size := by
        have := Nat.mul_le_mul_right sz hn
        rw [Nat.add_mul] at this
        omega
      have hst := run_storeCells_at P g (v.l * sz) e (Builtin.zeroCells z.cells n).toList 0 cur w gb hfit (by
        intro u hu
        simp only [Builtin.zeroCells, Array.toList_map, List.mem_map] at hu
        obtain ⟨j, hj, rfl⟩ := hu
        refine hz1 i z hi hz _ ?_
        have hj : j % z.cells.size < z.cells.size := Nat.mod_lt _ (by rw [hzs]; exact he.pos)
        rw [getElem!_pos z.cells _ hj]
        exact Array.getElem_mem_toList hj)
      refine ⟨.tuple #[], w.setRow g (cur.toList.take (v.l * sz + 0) ++ (Builtin.zeroCells z.cells n).toList ++ cur.toList.drop (v.l * sz + 0 + (Builtin.zeroCells z.cells n).toList.length)).toArray, ?_, ⟨rfl, rfl, rfl⟩, hk _ (h.regrow (v' := v) (fun d hd hne => ?_) hlen.1 (.inr ⟨g, _, hg, .inl hg, setRow_heap w g cur _ e _ gb, hlen.2, gm, ?_, ?_⟩))⟩
      · rw [hsub]
        obtain ⟨n, rfl⟩ : ∃ m, n = m + 1 := ⟨n - 1, by omega⟩
        simp [Builtin.clear_, run_underlying he.und, hzero, hst, Result.andThen, K1.mk]
      · rw [setRow_other w g d _ (hne g hg), hw]
      · simp only [List.size_toArray, List.length_append, List.length_take, List.length_drop, Array.length_toList] at hzl ⊢
        omega
      · rw [Nat.add_zero, List.toList_toArray, List.append_assoc, List.take_append_of_le_length (by rw [List.length_take, Array.length_toList]; have := Nat.mul_le_mul_right sz hlen.2; omega), List.take_take, Nat.min_self, gt]
end
end Go.Sx
namespace Go.Sx.Tryz
open Go Go.Sx Go.Proofs
set_option maxRecDepth 100000
set_option linter.unusedVariables false
noncomputable def c106 : Code := (Tryz.f106.body).getD .skip
def a106 : Ann := (.seq .leaf (.seq .leaf (.seq (.seq .leaf (.br (.seq .leaf .leaf) .leaf)) (.seq .leaf (.seq (.reg (.q 0 (.q 1 (.q 2 (.q 3 (.q 4 (.q 5 (.m 6 (.q 7 (.fin)) (.nil))))))))) (.seq .leaf (.seq .leaf .leaf)))))))
theorem ok106 : okC tab 33 true c106 a106 = true := by kernel_rfl
theorem vc106 (s_ : Sl) (i_ : Int) (j_ : Int) (h : Heap) (R : Value → Heap → Prop)
  (hv : ((0 : Int) ≤ i_ ∧ i_ ≤ j_ ∧ j_ ≤ ((s_.l : Nat) : Int) ∧ ((s_.l : Nat) : Int) ≤ ((s_.c : Nat) : Int)) ∧
   CondP ((i_ : Int) == j_) (
   R (.slice s_.a s_.l s_.c) h) (
   ((0 : Int) ≤ (0 : Int) ∧ (0 : Int) ≤ i_ ∧ i_ ≤ ((s_.c : Nat) : Int)) ∧
   ((0 : Int) ≤ j_ ∧ j_ ≤ ((s_.l : Nat) : Int)) ∧
   RunK Tryz.prog (.sl) (Builtin.append_ #[95, 95] 95 #[.slice (subA s_.a 0 s_.c 5) i_.toNat s_.c, .slice (subA s_.a j_.toNat s_.c 5) (s_.l - j_.toNat) (s_.c - j_.toNat)]) h (fun x1 h1 =>
   ((0 : Int) ≤ ((x1.l : Nat) : Int) ∧ ((x1.l : Nat) : Int) ≤ ((s_.l : Nat) : Int) ∧ ((s_.l : Nat) : Int) ≤ ((x1.c : Nat) : Int)) ∧
   RunK Tryz.prog (.v) (Builtin.clear_ #[95] 0 #[.slice (subA x1.a x1.l x1.c 5) (s_.l - x1.l) (x1.c - x1.l)]) h1 (fun v1 h2 =>
   R (.slice x1.a x1.l x1.c) h2)))) :
  CallsH Tryz.prog 106 #[.slice s_.a s_.l s_.c, .int .i64 i_, .int .i64 j_] h R :=
  calls_of_vc tabOk mixed Tryz.func106 (c := c106) (by kernel_rfl) (n := 33) rfl (rs := [.tmp 6]) (by kernel_rfl) ok106 (args := [.slice s_.a s_.l s_.c, .int .i64 i_, .int .i64 j_]) (Nat.le_of_ble_eq_true rfl) (Eq.mpr (by kernel_rfl) hv)
end Go.Sx.Tryz
namespace Go.Sx.Tryz
open Go Go.Sx Go.Proofs
set_option linter.unusedVariables false
section
variable {H H' : Heap} {S : PH} {R : List Asn}
theorem el95z : ∀ i z, Tryz.prog.info? 107 = some i → i.zero = some z → ∀ u ∈ z.cells.toList, u.oneCell' = true := by
  intro i z hi hz
  have h : (Tryz.prog.info? 107).map (fun i => i.zero) = some (some (.agg #[.int .i64 0, .int .u64 0, .bool false, .int .u64 0, .int .u64 0])) := by kernel_rfl
  rw [hi] at h
  simp only [Option.map_some, Option.some.injEq] at h
  rw [hz] at h
  injection h with h
  subst h
  intro u hu
  simp [Value.cells] at hu
  rcases hu with rfl | rfl | rfl | rfl <;> rfl
theorem delete_spec {v : Sl} {l : List Seg} {i : Nat} {j : Int} (hs : Sat H S (ownS v l :: R)) (hi : i < l.length) (hj : j = ((i + 1 : Nat) : Int))
    {K : Value → Heap → Prop} (hK : ∀ (v' : Sl) H', Sat H' S (ownS v' (l.eraseIdx i) :: R) → K (.slice v'.a v'.l v'.c) H') : CallsH Tryz.prog 106 #[.slice v.a v.l v.c, .int .i64 (i : Int), .int .i64 j] H K := by
  subst hj
  apply vc106
  obtain ⟨hl, hlc⟩ := ownS.len hs
  obtain ⟨g, ga, gc⟩ := own.cells hs (by rw [segV_len]; omega)
  refine ⟨⟨by omega, by omega, by omega, by omega⟩, CondP.of (fun hc => by simp at hc; omega) fun _ => ⟨⟨by omega, by omega, by omega⟩, ⟨by omega, by omega⟩, ?_⟩⟩
  simp only [Int.toNat_natCast]
  rw [subA_zero (p := v.a) (by intro a ha; rw [ga] at ha; cases ha; rfl)]
  have hsh := own.shrink hs (k := i) (by omega) (by omega)
  have et : (segV l).take (i * 5) = segV (l.take i) := flat_take segV1_len l i
  have ed : (segV l).drop ((i + 1) * 5) = segV (l.drop (i + 1)) := flat_drop segV1_len l (i + 1)
  rw [et] at hsh
  obtain ⟨a, hsub, hread⟩ : ∃ a : Addr, subA v.a (i + 1) v.c 5 = some a ∧ ∀ k u, (segV (l.drop (i + 1)))[k]? = some u → ∀ w : World, w.heap = H → w.cell? (a.add k) = some u := by
    by_cases hc : v.c = i + 1
    · refine ⟨⟨g, 0, none⟩, by unfold subA; rw [if_pos hc, ga], fun k u hu => ?_⟩
      have : l.drop (i + 1) = [] := List.drop_of_length_le (by omega)
      rw [this] at hu; simp [segV] at hu
    · refine ⟨⟨g, (i + 1) * 5, none⟩, by unfold subA; rw [if_neg hc, ga]; simp [addr_add], fun k u hu w hw => ?_⟩
      rw [addr_add, cell?_eq, hw]
      rw [← ed, List.getElem?_drop] at hu
      have := gc.get _ _ hu
      rw [Nat.zero_add] at this
      exact this
  rw [hsub]
  refine append_room el95 (v := ⟨v.a, i, v.c⟩) hsh ga (m := v.l - (i + 1)) (c := v.c - (i + 1)) (news := segV (l.drop (i + 1))) (by rw [segV_len, List.length_drop]; omega) hread (segV_one _) (by show i + (v.l - (i + 1)) ≤ v.c; omega) fun h1 hs1 => ?_
  have e : segV (l.take i) ++ segV (l.drop (i + 1)) = segV (l.eraseIdx i) := by
    rw [List.eraseIdx_eq_take_drop_succ]; simp [segV]
  rw [e] at hs1
  refine ⟨⟨by omega, by show (((i + (v.l - (i + 1)) : Nat) : Int)) ≤ _; omega, by show _ ≤ ((v.c : Nat) : Int); omega⟩, ?_⟩
  refine clear_tail el95 el95z (v := ⟨v.a, i + (v.l - (i + 1)), v.c⟩) hs1 ga (n := v.l - (i + (v.l - (i + 1)))) (by show i + (v.l - (i + 1)) + (v.l - (i + (v.l - (i + 1)))) ≤ v.c; omega) fun h2 hs2 => hK ⟨v.a, i + (v.l - (i + 1)), v.c⟩ h2 hs2
end
end Go.Sx.Tryz
namespace Go.Sx.Tryz
open Go Go.Sx Go.Proofs
set_option maxRecDepth 100000
set_option linter.unusedVariables false
noncomputable def c105 : Code := (Tryz.f105.body).getD .skip
def a105 : Ann := (.seq .leaf (.join [(2, .one (.i .i64))] (.inn (.loop [(2, .one (.i .i64))] (.seq (.seq .leaf (.br .leaf .leaf)) (.inn .leaf)))) (.inn (.loop [(2, .one (.i .i64))] (.seq (.seq (.reg (.q 0 (.q 1 (.q 2 (.q 3 (.q 4 (.q 5 (.q 6 (.q 7 (.q 8 (.q 9 (.q 10 (.q 11 (.q 12 (.q 13 (.q 14 (.m 15 (.m 16 (.q 17 (.fin)) (.nil)) (.nil)))))))))))))))))) (.br .leaf .leaf)) (.seq (.inn .leaf) .leaf))))))
theorem ok105 : okC tab 53 true c105 a105 = true := by kernel_rfl
theorem vc105 (j_b j_o : Nat) (h : Heap) (R : Value → Heap → Prop)
  (hv : ∃ x1 : Sl, cellH h j_b (j_o + 8) = some (.slice x1.a x1.l x1.c) ∧
   ∃ J1 : Int → Heap → Prop, (∀ n1 : Int, ∀ h1, J1 n1 h1 → ∀ _ : Env,
   ∃ (I1 : Int → Heap → Prop) (mu1 : Int → Heap → Nat), I1 n1 h1 ∧ (∀ n2 : Int, ∀ h2, I1 n2 h2 → ∀ _ : Env,
   CondP (decide ((n2 : Int) > 0)) (
   ∃ p1 : Option Addr, cellH h2 j_b j_o = some (.pointer p1) ∧
   ∃ x2 : Sl, cellH h2 j_b (j_o + 8) = some (.slice x2.a x2.l x2.c) ∧
   ((0 : Int) ≤ 0 ∧ (0 : Int) < ((x2.l : Nat) : Int)) ∧
   NilP x2.a (fun b1 o1 =>
   ∃ n3 : Int, cellH h2 b1 o1 = some (.int .i64 n3) ∧
   CallsH Tryz.prog 99 #[.pointer p1, .int .i64 n3] h2 (fun r1 h3 => ∃ n4 : Int, r1 = .int .i64 n4 ∧
   CallsH Tryz.prog 98 #[.pointer (some ⟨j_b, j_o, none⟩), .int .i64 n4] h3 (fun r2 h4 => ∃ t1 : Bool, r2 = .bool t1 ∧
   CondP t1 (
   ∃ x3 : Sl, cellH h4 j_b (j_o + 8) = some (.slice x3.a x3.l x3.c) ∧
   CallsH Tryz.prog 106 #[.slice x3.a x3.l x3.c, .int .i64 0, .int .i64 1] h4 (fun r3 h5 => ∃ x4 : Sl, r3 = .slice x4.a x4.l x4.c ∧
   CanSt h5 j_b (j_o + 8) [.slice x4.a x4.l x4.c] ∧ ∀ h6, Stored h5 j_b (j_o + 8) [.slice x4.a x4.l x4.c] h6 →
   I1 (IntKind.i64.wrap (n2 - 1)) h6 ∧ mu1 (IntKind.i64.wrap (n2 - 1)) h6 < mu1 n2 h2)) (
   R (.tuple #[]) h4))))) (
   R (.tuple #[]) h2))) ∧
   ∃ (I2 : Int → Heap → Prop) (mu2 : Int → Heap → Nat), I2 (IntKind.i64.wrap (((x1.l : Nat) : Int) - 1)) h ∧ (∀ n5 : Int, ∀ h7, I2 n5 h7 → ∀ _ : Env,
   CondP (decide ((n5 : Int) > 0)) (
   ∃ x5 : Sl, cellH h7 j_b (j_o + 8) = some (.slice x5.a x5.l x5.c) ∧
   ((0 : Int) ≤ n5 ∧ (n5 : Int) < ((x5.l : Nat) : Int)) ∧
   NilP x5.a (fun b2 o2 =>
   ∃ t2 : Bool, cellH h7 b2 (o2 + n5.toNat * 5 + 1 + 1) = some (.bool t2) ∧
   CondP (!t2) (
   I2 (IntKind.i64.wrap (n5 - 1)) h7 ∧ mu2 (IntKind.i64.wrap (n5 - 1)) h7 < mu2 n5 h7) (
   J1 n5 h7))) (
   J1 n5 h7))) :
  CallsH Tryz.prog 105 #[.pointer (some ⟨j_b, j_o, none⟩)] h R :=
  calls_of_vc tabOk mixed Tryz.func105 (c := c105) (by kernel_rfl) (n := 53) rfl (rs := []) (by kernel_rfl) ok105 (args := [.pointer (some ⟨j_b, j_o, none⟩)]) (Nat.le_of_ble_eq_true rfl) (Eq.mpr (by kernel_rfl) hv)
end Go.Sx.Tryz
namespace Go.Sx.Tryz
open Go Go.Sx Go.Proofs
set_option linter.unusedVariables false
section
variable {H H' : Heap} {S : PH} {R : List Asn} {jb : Nat} {J : Jn}
def fileAt (l : List Seg) (i : Nat) : Nat := match l[i]? with | some x => x.file | none => 0
def anewAt (l : List Seg) (i : Nat) : Bool := match l[i]? with | some x => x.head.anew | none => false
def Jn.dropAt (J : Jn) (D : Dk) (i : Nat) : Bool × Dk × Jn :=
  if (D.drp (fileAt J.segs i)).1 = 0 then (true, (D.drp (fileAt J.segs i)).2, { J.note 0 with segs := J.segs.eraseIdx i }) else (false, (D.drp (fileAt J.segs i)).2, J.note (D.drp (fileAt J.segs i)).1)
def Jn.dropN : Nat → Jn → Dk → Dk × Jn
  | 0, J, D => (D, J)
  | k + 1, J, D => if (J.dropAt D 0).1 = true then Jn.dropN k (J.dropAt D 0).2.2 (J.dropAt D 0).2.1 else (J.dropAt D 0).2
def lastNew (l : List Seg) : Nat → Nat
  | 0 => 0
  | k + 1 => if anewAt l (k + 1) = true then k + 1 else lastNew l k
def Jn.begun (J : Jn) (D : Dk) : Dk × Jn := J.dropN (lastNew J.segs (J.segs.length - 1)) D
theorem lastNew_le (l : List Seg) : ∀ k, lastNew l k ≤ k
  | 0 => Nat.le_refl _
  | k + 1 => by unfold lastNew; split; exact Nat.le_refl _; exact Nat.le_succ_of_le (lastNew_le l k)
theorem set_segs {J : Jn} {ve vs vs' : Sl} {l : List Seg} {h14 : Heap} (hs : Sat h14 S (ownS vs' l :: lst jb 97 (jcs J ve vs) :: ownE ve J.log.es :: R)) {K : Heap → Prop} (hK : ∀ H', Sat H' S (jA jb { J with segs := l } :: R) → K H') :
    CanSt h14 jb 8 [.slice vs'.a vs'.l vs'.c] ∧ ∀ h15, Stored h14 jb 8 [.slice vs'.a vs'.l vs'.c] h15 → K h15 := by
  refine (hs.pick 1 rfl).store (by simp [jcs, lgV]) fun h15 hs2 => hK h15 (jA_shut (J := { J with segs := l }) (ve := ve) (vs := vs') ?_)
  exact hs2.sel [0, 1]
theorem begun_spec {D : Dk} (hs : Sat H S (jA jb J :: dsk J.d D :: R)) (hfl : ∀ x ∈ J.segs, x.file < 32) (hsl : J.segs.length < 1000000) (h0 : 0 < J.segs.length)
    {K : Value → Heap → Prop} (hK : ∀ H', Sat H' S (jA jb (J.begun D).2 :: dsk J.d (J.begun D).1 :: R) → K (.tuple #[]) H') : CallsH Tryz.prog 105 #[.pointer (some ⟨jb, 0, none⟩)] H K := by
  apply vc105
  obtain ⟨ve, vs, hs1⟩ := jA_open hs
  have hvl := (ownS.len (hs1.pick 2 rfl)).1
  refine ⟨vs, hs1.cell 8 rfl, fun n h => n = (lastNew J.segs (J.segs.length - 1) : Int) ∧ Sat h S (jA jb J :: dsk J.d D :: R), ?_, ?_⟩
  · rintro n h1 ⟨rfl, hs2⟩ _
    have hln := lastNew_le J.segs (J.segs.length - 1)
    refine ⟨fun n h => ∃ (k : Nat) (J' : Jn) (D' : Dk), n = k ∧ J'.d = J.d ∧ k < J'.segs.length ∧ J'.segs.length < 1000000 ∧ (∀ x ∈ J'.segs, x.file < 32) ∧ J'.dropN k D' = J.begun D ∧ Sat h S (jA jb J' :: dsk J'.d D' :: R), fun n _ => n.toNat, ⟨_, J, D, rfl, rfl, by omega, hsl, hfl, rfl, hs2⟩, ?_⟩
    rintro n h2 ⟨k, J', D', rfl, hd, hk, hl', hf', he, hs3⟩ _
    refine CondP.of (fun hc => ?_) (fun hc => ?_)
    · obtain ⟨k, rfl⟩ : ∃ m, k = m + 1 := ⟨k - 1, by simp at hc; omega⟩
      obtain ⟨ve, vs, hs4⟩ := jA_open hs3
      have hvl := (ownS.len (hs4.pick 2 rfl)).1
      obtain ⟨g, ga, gc⟩ := ownS.at (hs4.pick 2 rfl) (k := 0) (by omega)
      have hfa : fileAt J'.segs 0 = (J'.segs[0]'(by omega)).file := by unfold fileAt; rw [List.getElem?_eq_getElem (by omega)]
      refine ⟨_, hs4.cell 0 rfl, vs, hs4.cell 8 rfl, ⟨by omega, by omega⟩, NilP.of ga ⟨_, by have := gc.get 0 _ rfl; simpa using this, ?_⟩⟩
      rw [← hfa]
      refine drp_spec (by rw [hfa]; exact hf' _ (List.getElem_mem _)) hs3.swap fun h3 hs5 => ⟨_, rfl, done_spec hs5.swap fun h4 hs6 => ⟨_, rfl, CondP.of (fun hc => ?_) (fun hc => ?_)⟩⟩
      · have hz : (D'.drp (fileAt J'.segs 0)).1 = 0 := by simpa using hc
        have e : J'.dropAt D' 0 = (true, (D'.drp (fileAt J'.segs 0)).2, { J'.note 0 with segs := J'.segs.eraseIdx 0 }) := by rw [Jn.dropAt, if_pos hz]
        rw [hz] at hs6
        obtain ⟨ve, vs, hs7⟩ := jA_open hs6
        refine ⟨vs, hs7.cell 8 rfl, delete_spec (i := 0) (hs7.sel [2]) (by show 0 < J'.segs.length; omega) rfl fun v' h5 hs8 => ⟨v', rfl, ?_⟩⟩
        refine set_segs (J := J'.note 0) hs8 fun h6 hs9 => ?_
        have ew : IntKind.i64.wrap (((k + 1 : Nat) : Int) - 1) = (k : Int) := by rw [i64_in (by omega) (by omega)]; omega
        rw [ew]
        have hel : (J'.segs.eraseIdx 0).length = J'.segs.length - 1 := List.length_eraseIdx_of_lt (by omega)
        refine ⟨⟨k, { J'.note 0 with segs := J'.segs.eraseIdx 0 }, (D'.drp (fileAt J'.segs 0)).2, rfl, hd, by show k < (J'.segs.eraseIdx 0).length; omega, by show (J'.segs.eraseIdx 0).length < _; omega, fun x hx => hf' x (List.mem_of_mem_eraseIdx hx), ?_, hs9⟩, (by show k < k + 1; omega)⟩
        rw [Jn.dropN, e] at he
        simpa using he
      · have hz : ¬ (D'.drp (fileAt J'.segs 0)).1 = 0 := by simpa using hc
        have e : J'.dropAt D' 0 = (false, (D'.drp (fileAt J'.segs 0)).2, J'.note (D'.drp (fileAt J'.segs 0)).1) := by rw [Jn.dropAt, if_neg hz]
        rw [Jn.dropN, e] at he
        simp only [Bool.false_eq_true, if_false] at he
        refine hK h4 ?_
        rw [← he, ← hd]
        exact hs6
    · have : k = 0 := by simp at hc; omega
      subst this
      have he : (D', J') = J.begun D := he
      refine hK h2 ?_
      rw [← he, ← hd]; exact hs3
  · rw [i64_in (by omega) (by omega), hvl, show ((J.segs.length : Nat) : Int) - 1 = ((J.segs.length - 1 : Nat) : Int) by omega]
    refine ⟨fun n h => ∃ k : Nat, n = k ∧ k < J.segs.length ∧ lastNew J.segs k = lastNew J.segs (J.segs.length - 1) ∧ Sat h S (jA jb J :: dsk J.d D :: R), fun n _ => n.toNat, ⟨_, rfl, by omega, rfl, hs⟩, ?_⟩
    rintro n h2 ⟨k, rfl, hk, he, hs3⟩ _
    refine CondP.of (fun hc => ?_) (fun hc => ?_)
    · obtain ⟨k, rfl⟩ : ∃ m, k = m + 1 := ⟨k - 1, by simp at hc; omega⟩
      obtain ⟨ve, vs, hs4⟩ := jA_open hs3
      have hvl := (ownS.len (hs4.pick 2 rfl)).1
      obtain ⟨g, ga, gc⟩ := ownS.at (hs4.pick 2 rfl) (k := k + 1) hk
      have han : anewAt J.segs (k + 1) = (J.segs[k + 1]'hk).head.anew := by unfold anewAt; rw [List.getElem?_eq_getElem hk]
      refine ⟨vs, hs4.cell 8 rfl, ⟨by omega, by omega⟩, NilP.of ga ⟨anewAt J.segs (k + 1), ?_, CondP.of (fun hn => ?_) (fun hn => ?_)⟩⟩
      · rw [han]
        have := gc.get 2 _ rfl
        simpa [Nat.add_assoc] using this
      · have ew : IntKind.i64.wrap (((k + 1 : Nat) : Int) - 1) = (k : Int) := by rw [i64_in (by omega) (by omega)]; omega
        rw [ew]
        have hn : anewAt J.segs (k + 1) = false := by simpa using hn
        refine ⟨⟨k, rfl, by omega, ?_, hs3⟩, (by show k < k + 1; omega)⟩
        rw [← he, lastNew, if_neg (by rw [hn]; simp)]
      · have hn : anewAt J.segs (k + 1) = true := by simpa using hn
        refine ⟨?_, hs3⟩
        rw [← he, lastNew, if_pos hn]
    · have : k = 0 := by simp at hc; omega
      subst this
      exact ⟨by rw [← he]; rfl, hs3⟩
end
end Go.Sx.Tryz
namespace Go.Sx.Tryz
open Go Go.Sx Go.Proofs
set_option maxRecDepth 100000
set_option linter.unusedVariables false
noncomputable def c43 : Code := (Tryz.f43.body).getD .skip
def a43 : Ann := (.seq (.seq .leaf (.seq .leaf (.br .leaf .leaf))) (.seq .leaf (.inn (.loop [(2, .one (.i .i64))] (.seq (.join [(24, .one (.b))] .leaf (.br .leaf .leaf)) (.seq (.inn (.seq .leaf (.seq (.reg (.q 0 (.q 1 (.q 2 (.q 3 (.q 4 (.q 5 (.q 6 (.q 7 (.q 8 (.q 9 (.q 10 (.q 11 (.q 12 (.q 13 (.q 14 (.q 15 (.q 16 (.q 17 (.q 18 (.q 19 (.q 20 (.q 21 (.q 22 (.q 23 (.q 24 (.q 25 (.q 26 (.q 27 (.q 28 (.q 29 (.m 30 (.m 31 (.q 32 (.fin)) (.nil)) (.nil))))))))))))))))))))))))))))))))) (.br .leaf .leaf)))) .leaf))))))
theorem ok43 : okC tab 80 true c43 a43 = true := by kernel_rfl
theorem vc43 (j_b j_o : Nat) (h : Heap) (R : Value → Heap → Prop)
  (hv : CallsH Tryz.prog 105 #[.pointer (some ⟨j_b, j_o, none⟩)] h (fun r1 h1 => r1 = .tuple #[] ∧
   ∃ t1 : Bool, cellH h1 j_b (j_o + 9) = some (.bool t1) ∧
   CondP t1 (
   R (.tuple #[]) h1) (
   ∃ x1 : Sl, cellH h1 j_b (j_o + 8) = some (.slice x1.a x1.l x1.c) ∧
   ∃ (I1 : Int → Heap → Prop) (mu1 : Int → Heap → Nat), I1 (IntKind.i64.wrap (((x1.l : Nat) : Int) - 2)) h1 ∧ (∀ n1 : Int, ∀ h2, I1 n1 h2 → ∀ _ : Env,
   ∃ J1 : Bool → Heap → Prop, (∀ t2 : Bool, ∀ h3, J1 t2 h3 → ∀ _ : Env,
   CondP t2 (
   ∃ x2 : Sl, cellH h3 j_b (j_o + 8) = some (.slice x2.a x2.l x2.c) ∧
   ((0 : Int) ≤ IntKind.i64.wrap (n1 + 1) ∧ (IntKind.i64.wrap (n1 + 1) : Int) < ((x2.l : Nat) : Int)) ∧
   NilP x2.a (fun b1 o1 =>
   ∃ n2 : Int, ∃ t3 : Bool, ∃ n3 : Int, ∃ n4 : Int, CellsAt h3 b1 (o1 + ((IntKind.i64.wrap (n1 + 1)).toNat) * 5 + 1) [.int .u64 n2, .bool t3, .int .u64 n3, .int .u64 n4] ∧
   ∀ b2 h4, Fresh h3 (.cells #[.int .u64 0, .bool false, .int .u64 0, .int .u64 0] 103) b2 h4 →
   CanSt h4 b2 0 [.int .u64 n2, .bool t3, .int .u64 n3, .int .u64 n4] ∧ ∀ h5, Stored h4 b2 0 [.int .u64 n2, .bool t3, .int .u64 n3, .int .u64 n4] h5 →
   ∃ t4 : Bool, cellH h5 b2 1 = some (.bool t4) ∧
   CondP t4 (
   ∃ p1 : Option Addr, cellH h5 j_b j_o = some (.pointer p1) ∧
   ∃ x3 : Sl, cellH h5 j_b (j_o + 8) = some (.slice x3.a x3.l x3.c) ∧
   ((0 : Int) ≤ n1 ∧ (n1 : Int) < ((x3.l : Nat) : Int)) ∧
   NilP x3.a (fun b3 o2 =>
   ∃ n5 : Int, cellH h5 b3 (o2 + n1.toNat * 5) = some (.int .i64 n5) ∧
   CallsH Tryz.prog 99 #[.pointer p1, .int .i64 n5] h5 (fun r2 h6 => ∃ n6 : Int, r2 = .int .i64 n6 ∧
   CallsH Tryz.prog 98 #[.pointer (some ⟨j_b, j_o, none⟩), .int .i64 n6] h6 (fun r3 h7 => ∃ t5 : Bool, r3 = .bool t5 ∧
   CondP t5 (
   ∃ x4 : Sl, cellH h7 j_b (j_o + 8) = some (.slice x4.a x4.l x4.c) ∧
   CallsH Tryz.prog 106 #[.slice x4.a x4.l x4.c, .int .i64 n1, .int .i64 (IntKind.i64.wrap (n1 + 1))] h7 (fun r4 h8 => ∃ x5 : Sl, r4 = .slice x5.a x5.l x5.c ∧
   CanSt h8 j_b (j_o + 8) [.slice x5.a x5.l x5.c] ∧ ∀ h9, Stored h8 j_b (j_o + 8) [.slice x5.a x5.l x5.c] h9 →
   I1 (IntKind.i64.wrap (n1 - 1)) h9 ∧ mu1 (IntKind.i64.wrap (n1 - 1)) h9 < mu1 n1 h2)) (
   I1 (IntKind.i64.wrap (n1 - 1)) h7 ∧ mu1 (IntKind.i64.wrap (n1 - 1)) h7 < mu1 n1 h2))))) (
   ∃ n7 : Int, cellH h5 b2 2 = some (.int .u64 n7) ∧
   ∃ x6 : Sl, cellH h5 j_b (j_o + 8) = some (.slice x6.a x6.l x6.c) ∧
   ((0 : Int) ≤ n1 ∧ (n1 : Int) < ((x6.l : Nat) : Int)) ∧
   NilP x6.a (fun b4 o3 =>
   ∃ n8 : Int, cellH h5 b4 (o3 + n1.toNat * 5 + 1 + 2) = some (.int .u64 n8) ∧
   CondP (decide ((n7 : Int) ≤ n8)) (
   ∃ p2 : Option Addr, cellH h5 j_b j_o = some (.pointer p2) ∧
   ∃ x7 : Sl, cellH h5 j_b (j_o + 8) = some (.slice x7.a x7.l x7.c) ∧
   ((0 : Int) ≤ n1 ∧ (n1 : Int) < ((x7.l : Nat) : Int)) ∧
   NilP x7.a (fun b5 o4 =>
   ∃ n9 : Int, cellH h5 b5 (o4 + n1.toNat * 5) = some (.int .i64 n9) ∧
   CallsH Tryz.prog 99 #[.pointer p2, .int .i64 n9] h5 (fun r5 h10 => ∃ n10 : Int, r5 = .int .i64 n10 ∧
   CallsH Tryz.prog 98 #[.pointer (some ⟨j_b, j_o, none⟩), .int .i64 n10] h10 (fun r6 h11 => ∃ t6 : Bool, r6 = .bool t6 ∧
   CondP t6 (
   ∃ x8 : Sl, cellH h11 j_b (j_o + 8) = some (.slice x8.a x8.l x8.c) ∧
   CallsH Tryz.prog 106 #[.slice x8.a x8.l x8.c, .int .i64 n1, .int .i64 (IntKind.i64.wrap (n1 + 1))] h11 (fun r7 h12 => ∃ x9 : Sl, r7 = .slice x9.a x9.l x9.c ∧
   CanSt h12 j_b (j_o + 8) [.slice x9.a x9.l x9.c] ∧ ∀ h13, Stored h12 j_b (j_o + 8) [.slice x9.a x9.l x9.c] h13 →
   I1 (IntKind.i64.wrap (n1 - 1)) h13 ∧ mu1 (IntKind.i64.wrap (n1 - 1)) h13 < mu1 n1 h2)) (
   I1 (IntKind.i64.wrap (n1 - 1)) h11 ∧ mu1 (IntKind.i64.wrap (n1 - 1)) h11 < mu1 n1 h2))))) (
   I1 (IntKind.i64.wrap (n1 - 1)) h5 ∧ mu1 (IntKind.i64.wrap (n1 - 1)) h5 < mu1 n1 h2))))) (
   R (.tuple #[]) h3)) ∧
   CondP (decide ((n1 : Int) ≥ 0)) (
   ∃ t7 : Bool, cellH h2 j_b (j_o + 9) = some (.bool t7) ∧
   J1 (!t7) h2) (
   J1 false h2))))) :
  CallsH Tryz.prog 43 #[.pointer (some ⟨j_b, j_o, none⟩)] h R :=
  calls_of_vc tabOk mixed Tryz.func43 (c := c43) (by kernel_rfl) (n := 80) rfl (rs := []) (by kernel_rfl) ok43 (args := [.pointer (some ⟨j_b, j_o, none⟩)]) (Nat.le_of_ble_eq_true rfl) (Eq.mpr (by kernel_rfl) hv)
end Go.Sx.Tryz
namespace Go.Sx.Tryz
open Go Go.Sx Go.Proofs
set_option linter.unusedVariables false
section
variable {H H' : Heap} {S : PH} {R : List Asn} {jb : Nat} {J : Jn}
def idxAt (l : List Seg) (i : Nat) : Nat := match l[i]? with | some x => x.head.i | none => 0
def isIdle (l : List Seg) (i : Nat) : Bool := anewAt l (i + 1) || decide (idxAt l (i + 1) ≤ idxAt l i)
def Jn.idleN : Nat → Jn → Dk → Dk × Jn
  | 0, J, D => (D, J)
  | i + 1, J, D => if J.broken = true then (D, J) else if isIdle J.segs i = true then Jn.idleN i (J.dropAt D i).2.2 (J.dropAt D i).2.1 else Jn.idleN i J D
def Jn.idle (J : Jn) (D : Dk) : Dk × Jn := if (J.begun D).2.broken = true then J.begun D else (J.begun D).2.idleN ((J.begun D).2.segs.length - 1) (J.begun D).1
theorem getSeg {l : List Seg} {i : Nat} (h : i < l.length) : fileAt l i = l[i].file ∧ anewAt l i = l[i].head.anew ∧ idxAt l i = l[i].head.i := by
  unfold fileAt anewAt idxAt
  rw [List.getElem?_eq_getElem h]
  exact ⟨rfl, rfl, rfl⟩
theorem dropStep {J' : Jn} {D' : Dk} {k : Nat} {h5 : Heap} (hs3 : Sat h5 S (jA jb J' :: dsk J'.d D' :: R)) (hk : k < J'.segs.length) (hf' : ∀ x ∈ J'.segs, x.file < 32)
    {Q : Heap → Prop} (hq : ∀ H', Sat H' S (jA jb (J'.dropAt D' k).2.2 :: dsk J'.d (J'.dropAt D' k).2.1 :: R) → Q H') {j : Int} (hj : j = ((k + 1 : Nat) : Int)) :
    CallsH Tryz.prog 99 #[.pointer (some ⟨J'.d, 0, none⟩), .int .i64 ((J'.segs[k]).file : Int)] h5 (fun r2 h6 => ∃ n6 : Int, r2 = .int .i64 n6 ∧
     CallsH Tryz.prog 98 #[.pointer (some ⟨jb, 0, none⟩), .int .i64 n6] h6 (fun r3 h7 => ∃ t5 : Bool, r3 = .bool t5 ∧
     CondP t5 (
     ∃ x4 : Sl, cellH h7 jb 8 = some (.slice x4.a x4.l x4.c) ∧
     CallsH Tryz.prog 106 #[.slice x4.a x4.l x4.c, .int .i64 (k : Int), .int .i64 j] h7 (fun r4 h8 => ∃ x5 : Sl, r4 = .slice x5.a x5.l x5.c ∧
     CanSt h8 jb 8 [.slice x5.a x5.l x5.c] ∧ ∀ h9, Stored h8 jb 8 [.slice x5.a x5.l x5.c] h9 → Q h9)) (Q h7))) := by
  obtain ⟨hfa, _, _⟩ := getSeg hk
  rw [← hfa]
  refine drp_spec (by rw [hfa]; exact hf' _ (List.getElem_mem _)) hs3.swap fun h3 hs5 => ⟨_, rfl, done_spec hs5.swap fun h4 hs6 => ⟨_, rfl, CondP.of (fun hc => ?_) (fun hc => ?_)⟩⟩
  · have hz : (D'.drp (fileAt J'.segs k)).1 = 0 := by simpa using hc
    have e : J'.dropAt D' k = (true, (D'.drp (fileAt J'.segs k)).2, { J'.note 0 with segs := J'.segs.eraseIdx k }) := by rw [Jn.dropAt, if_pos hz]
    rw [hz] at hs6
    obtain ⟨ve, vs, hs7⟩ := jA_open hs6
    refine ⟨vs, hs7.cell 8 rfl, delete_spec (i := k) (hs7.sel [2]) hk hj fun v' h5 hs8 => ⟨v', rfl, ?_⟩⟩
    refine set_segs (J := J'.note 0) hs8 fun h6 hs9 => hq h6 ?_
    rw [e]; exact hs9
  · have hz : ¬ (D'.drp (fileAt J'.segs k)).1 = 0 := by simpa using hc
    have e : J'.dropAt D' k = (false, (D'.drp (fileAt J'.segs k)).2, J'.note (D'.drp (fileAt J'.segs k)).1) := by rw [Jn.dropAt, if_neg hz]
    refine hq h4 ?_
    rw [e]; exact hs6
theorem dropAt_facts (J : Jn) (D : Dk) (k : Nat) (hk : k < J.segs.length) : (J.dropAt D k).2.2.d = J.d ∧ J.segs.length ≤ (J.dropAt D k).2.2.segs.length + 1 ∧ (J.dropAt D k).2.2.segs.length ≤ J.segs.length ∧ (∀ x ∈ (J.dropAt D k).2.2.segs, x ∈ J.segs) ∧ (J.dropAt D k).2.2.log = J.log := by
  unfold Jn.dropAt
  split
  · have := List.length_eraseIdx_of_lt hk
    exact ⟨rfl, by show _ ≤ (J.segs.eraseIdx k).length + 1; omega, by show (J.segs.eraseIdx k).length ≤ _; omega, fun x hx => List.mem_of_mem_eraseIdx hx, rfl⟩
  · exact ⟨rfl, by show _ ≤ J.segs.length + 1; omega, Nat.le_refl _, fun x hx => hx, rfl⟩
end
end Go.Sx.Tryz
namespace Go.Sx.Tryz
open Go Go.Sx Go.Proofs
set_option linter.unusedVariables false
section
variable {H H' : Heap} {S : PH} {R : List Asn} {jb : Nat} {J : Jn}
theorem dropN_facts : ∀ (k : Nat) (J : Jn) (D : Dk), k < J.segs.length → (J.dropN k D).2.d = J.d ∧ 0 < (J.dropN k D).2.segs.length ∧ (J.dropN k D).2.segs.length ≤ J.segs.length ∧ (∀ x ∈ (J.dropN k D).2.segs, x ∈ J.segs) ∧ (J.dropN k D).2.log = J.log
  | 0, J, D, h => ⟨rfl, h, Nat.le_refl _, fun x hx => hx, rfl⟩
  | k + 1, J, D, h => by
    obtain ⟨f1, f2, f3, f4, f5⟩ := dropAt_facts J D 0 (by omega)
    unfold Jn.dropN
    split
    · obtain ⟨g1, g2, g3, g4, g5⟩ := dropN_facts k (J.dropAt D 0).2.2 (J.dropAt D 0).2.1 (by omega)
      exact ⟨g1.trans f1, g2, Nat.le_trans g3 f3, fun x hx => f4 x (g4 x hx), g5.trans f5⟩
    · exact ⟨f1, by omega, f3, f4, f5⟩
theorem idle_spec {D : Dk} (hs : Sat H S (jA jb J :: dsk J.d D :: R)) (hfl : ∀ x ∈ J.segs, x.file < 32) (hsl : J.segs.length < 1000000) (h0 : 0 < J.segs.length)
    {K : Value → Heap → Prop} (hK : ∀ H', Sat H' S (jA jb (J.idle D).2 :: dsk J.d (J.idle D).1 :: R) → K (.tuple #[]) H') : CallsH Tryz.prog 43 #[.pointer (some ⟨jb, 0, none⟩)] H K := by
  apply vc43
  obtain ⟨f1, f2, f3, f4, f5⟩ := dropN_facts (lastNew J.segs (J.segs.length - 1)) J D (by have := lastNew_le J.segs (J.segs.length - 1); omega)
  have eb : J.dropN (lastNew J.segs (J.segs.length - 1)) D = J.begun D := rfl
  rw [eb] at f1 f2 f3 f4 f5
  refine begun_spec hs hfl hsl h0 fun h1 hs1 => ⟨rfl, ?_⟩
  obtain ⟨ve, vs, hs2⟩ := jA_open hs1
  have hvl := (ownS.len (hs2.pick 2 rfl)).1
  refine ⟨_, hs2.cell 9 rfl, CondP.of (fun hc => ?_) (fun hc => ⟨vs, hs2.cell 8 rfl, ?_⟩)⟩
  · have e : J.idle D = J.begun D := by rw [Jn.idle, if_pos hc]
    refine hK h1 ?_
    rw [e]; exact hs1
  have e : J.idle D = (J.begun D).2.idleN ((J.begun D).2.segs.length - 1) (J.begun D).1 := by rw [Jn.idle, if_neg (by rw [hc]; simp)]
  have ew : IntKind.i64.wrap (((vs.l : Nat) : Int) - 2) = (((J.begun D).2.segs.length - 1 : Nat) : Int) - 1 := by rw [i64_in (by omega) (by omega)]; omega
  rw [ew]
  rw [← f1] at hs1
  refine ⟨fun n h => ∃ (k : Nat) (J' : Jn) (D' : Dk), n = (k : Int) - 1 ∧ J'.d = J.d ∧ k < J'.segs.length ∧ J'.segs.length < 1000000 ∧ (∀ x ∈ J'.segs, x.file < 32) ∧ J'.idleN k D' = J.idle D ∧ Sat h S (jA jb J' :: dsk J'.d D' :: R), fun n _ => (n + 1).toNat, ⟨_, _, _, rfl, f1, by omega, by omega, fun x hx => hfl x (f4 x hx), e.symm, hs1⟩, ?_⟩
  rintro n h2 ⟨k, J', D', rfl, hd, hk, hl', hf', he, hs3⟩ _
  have fin : J'.idleN k D' = (D', J') → K (.tuple #[]) h2 := by
    intro h
    rw [h] at he
    refine hK h2 ?_
    rw [← he, ← hd]; exact hs3
  refine ⟨fun t h => h = h2 ∧ t = (decide (0 < k) && !J'.broken), ?_, ?_⟩
  · rintro t h3 ⟨rfl, rfl⟩ _
    refine CondP.of (fun hc => ?_) (fun hc => ?_)
    · have hk0 : 0 < k := by simp at hc; omega
      have hbr : J'.broken = false := by simp at hc; exact hc.2
      obtain ⟨k, rfl⟩ : ∃ m, k = m + 1 := ⟨k - 1, by omega⟩
      have hn1 : (((k + 1 : Nat) : Int) - 1) = (k : Int) := by omega
      rw [hn1, i64_succ (by omega)]
      simp only [Int.toNat_natCast]
      obtain ⟨ve, vs, hs4⟩ := jA_open hs3
      have hvl := (ownS.len (hs4.pick 2 rfl)).1
      have hc8 := hs4.cell 8 (v := .slice vs.a vs.l vs.c) rfl
      obtain ⟨g, ga, gc⟩ := ownS.at (hs4.pick 2 rfl) (k := k + 1) hk
      obtain ⟨_, han, hix⟩ := getSeg hk
      obtain ⟨_, _, hix0⟩ := getSeg (l := J'.segs) (i := k) (by omega)
      have hnext : ∀ (J2 : Jn) (D2 : Dk) (h : Heap), J2.d = J.d → k < J2.segs.length → J2.segs.length < 1000000 → (∀ x ∈ J2.segs, x.file < 32) → J2.idleN k D2 = J.idle D → Sat h S (jA jb J2 :: dsk J2.d D2 :: R) →
          (∃ (k' : Nat) (J' : Jn) (D' : Dk), IntKind.i64.wrap ((k : Int) - 1) = (k' : Int) - 1 ∧ J'.d = J.d ∧ k' < J'.segs.length ∧ J'.segs.length < 1000000 ∧ (∀ x ∈ J'.segs, x.file < 32) ∧ J'.idleN k' D' = J.idle D ∧ Sat h S (jA jb J' :: dsk J'.d D' :: R)) ∧ (IntKind.i64.wrap ((k : Int) - 1) + 1).toNat < ((k : Int) + 1).toNat := by
        intro J2 D2 h a1 a2 a3 a4 a5 a6
        rw [i64_in (by omega) (by omega)]
        exact ⟨⟨k, J2, D2, rfl, a1, a2, a3, a4, a5, a6⟩, by omega⟩
      rw [Jn.idleN, if_neg (by rw [hbr]; simp)] at he
      refine ⟨vs, hc8, ⟨by omega, by omega⟩, NilP.of ga ⟨((J'.segs[k + 1]'hk).head.serial : Int), (J'.segs[k + 1]'hk).head.anew, ((J'.segs[k + 1]'hk).head.i : Int), ((J'.segs[k + 1]'hk).head.t : Int), ?_, ?_⟩⟩
      · have := cells_sub gc 1 4
        exact this
      intro b2 h4 f4'
      have hs5 := hs3.fresh f4'
      have hs5 : Sat h4 S (lst b2 103 [.int .u64 0, .bool false, .int .u64 0, .int .u64 0] :: jA jb J' :: dsk J'.d D' :: R) := hs5
      refine hs5.store (Nat.le_refl _) fun h5 hs6 => ?_
      have hs6 : Sat h5 S (lst b2 103 (hdV (J'.segs[k + 1]'hk).head) :: jA jb J' :: dsk J'.d D' :: R) := hs6
      obtain ⟨ve2, vs2, hs7⟩ := jA_open hs6.swap
      have hvl2 := (ownS.len (hs7.pick 2 rfl)).1
      have hc82 := hs7.cell 8 (v := .slice vs2.a vs2.l vs2.c) rfl
      obtain ⟨g2, ga2, gc2⟩ := ownS.at (hs7.pick 2 rfl) (k := k) (by omega)
      have hdrop : isIdle J'.segs k = true → _ := fun hid => dropStep (J' := J') (D' := D') (k := k) (R := lst b2 103 (hdV (J'.segs[k + 1]'hk).head) :: R) (hs6.sel [1, 1]) (by omega) hf'
        (Q := fun h => (∃ (k' : Nat) (J' : Jn) (D' : Dk), IntKind.i64.wrap ((k : Int) - 1) = (k' : Int) - 1 ∧ J'.d = J.d ∧ k' < J'.segs.length ∧ J'.segs.length < 1000000 ∧ (∀ x ∈ J'.segs, x.file < 32) ∧ J'.idleN k' D' = J.idle D ∧ Sat h S (jA jb J' :: dsk J'.d D' :: R)) ∧ (IntKind.i64.wrap ((k : Int) - 1) + 1).toNat < ((k : Int) + 1).toNat) (fun H' hs' => by
          obtain ⟨q1, q2, q3, q4, q5⟩ := dropAt_facts J' D' k (by omega)
          rw [if_pos hid] at he
          refine hnext _ _ H' (q1.trans hd) (by omega) (by omega) (fun x hx => hf' x (q4 x hx)) he ?_
          rw [q1]; exact hs'.del 2) rfl
      have hfile : cellH h5 g2 (0 + k * 5) = some (.int .i64 ((J'.segs[k]'(by omega)).file : Int)) := gc2.get 0 _ rfl
      refine ⟨_, hs6.cell 1 rfl, CondP.of (fun hn => ?_) (fun hn => ?_)⟩
      · refine ⟨_, hs7.cell 0 rfl, vs2, hc82, ⟨by omega, by omega⟩, NilP.of ga2 ⟨_, hfile, ?_⟩⟩
        exact hdrop (by rw [isIdle, han, hn]; rfl)
      · refine ⟨_, hs6.cell 2 rfl, vs2, hc82, ⟨by omega, by omega⟩, NilP.of ga2 ⟨((J'.segs[k]'(by omega)).head.i : Int), ?_, CondP.of (fun hle => ?_) (fun hle => ?_)⟩⟩
        · have := gc2.get 3 _ rfl
          simpa [Nat.add_assoc] using this
        · refine ⟨_, hs7.cell 0 rfl, vs2, hc82, ⟨by omega, by omega⟩, NilP.of ga2 ⟨_, hfile, ?_⟩⟩
          refine hdrop ?_
          have hle := of_decide_eq_true hle
          rw [isIdle, han, hn, hix, hix0, Bool.false_or]
          exact decide_eq_true (by omega)
        · have hid : ¬ isIdle J'.segs k = true := by
            have hle := of_decide_eq_false hle
            rw [isIdle, han, hn, hix, hix0, Bool.false_or]
            simp; omega
          rw [if_neg hid] at he
          exact hnext J' D' h5 hd (by omega) hl' hf' he hs6.drop
    · have : k = 0 ∨ J'.broken = true := by
        rcases Nat.eq_zero_or_pos k with h | h
        · exact .inl h
        · right; simpa [h] using hc
      refine fin ?_
      rcases this with rfl | h
      · rfl
      · cases k with
        | zero => rfl
        | succ k => rw [Jn.idleN, if_pos h]
  · refine CondP.of (fun hc => ?_) (fun hc => ?_)
    · obtain ⟨ve, vs, hs4⟩ := jA_open hs3
      have hk0 : 0 < k := by simp at hc; omega
      exact ⟨_, hs4.cell 9 rfl, rfl, by rw [decide_eq_true hk0, Bool.true_and]⟩
    · have hk0 : ¬ 0 < k := by simp at hc; omega
      exact ⟨rfl, by rw [decide_eq_false hk0, Bool.false_and]⟩
end
end Go.Sx.Tryz
namespace Go.Sx.Tryz
open Go Go.Sx Go.Proofs
set_option maxRecDepth 100000
set_option linter.unusedVariables false
noncomputable def c149 : Code := (Tryz.f149.body).getD .skip
def a149 : Ann := (.seq .leaf (.seq (.seq .leaf (.br (.seq .leaf .leaf) .leaf)) (.seq .leaf .leaf)))
theorem ok149 : okC tab 8 true c149 a149 = true := by kernel_rfl
theorem vc149 (s_ : Sl) (h : Heap) (R : Value → Heap → Prop)
  (hv : CondP s_.a.isNone (
   R (.slice none 0 0) h) (
   ∀ b1 h1, Fresh h (.cells #[] 107) b1 h1 →
   RunK Tryz.prog (.sl) (Builtin.append_ #[95, 95] 95 #[.slice (some ⟨b1, 0, none⟩) 0 0, .slice s_.a s_.l s_.c]) h1 (fun x1 h2 =>
   R (.slice x1.a x1.l x1.c) h2))) :
  CallsH Tryz.prog 149 #[.slice s_.a s_.l s_.c] h R :=
  calls_of_vc tabOk mixed Tryz.func149 (c := c149) (by kernel_rfl) (n := 8) rfl (rs := [.tmp 2]) (by kernel_rfl) ok149 (args := [.slice s_.a s_.l s_.c]) (Nat.le_of_ble_eq_true rfl) (Eq.mpr (by kernel_rfl) hv)
end Go.Sx.Tryz
namespace Go.Sx.Tryz
open Go Go.Sx Go.Proofs
set_option maxRecDepth 100000
set_option linter.unusedVariables false
noncomputable def c107 : Code := (Tryz.f107.body).getD .skip
def a107 : Ann := (.seq .leaf (.seq (.seq (.reg (.q 0 (.q 1 (.q 2 (.q 3 (.q 4 (.q 5 (.q 6 (.q 7 (.q 8 (.q 9 (.q 10 (.q 11 (.m 12 (.m 13 (.q 14 (.fin)) (.nil)) (.nil))))))))))))))) (.br (.seq .leaf .leaf) .leaf)) (.seq .leaf (.seq .leaf .leaf))))
theorem ok107 : okC tab 27 true c107 a107 = true := by kernel_rfl
theorem vc107 (j_b j_o : Nat) (h : Heap) (R : Value → Heap → Prop)
  (hv : ∃ p1 : Option Addr, cellH h j_b j_o = some (.pointer p1) ∧
   ∃ x1 : Sl, cellH h j_b (j_o + 8) = some (.slice x1.a x1.l x1.c) ∧
   ((0 : Int) ≤ 0 ∧ (0 : Int) < ((x1.l : Nat) : Int)) ∧
   NilP x1.a (fun b1 o1 =>
   ∃ n1 : Int, cellH h b1 o1 = some (.int .i64 n1) ∧
   CallsH Tryz.prog 99 #[.pointer p1, .int .i64 n1] h (fun r1 h1 => ∃ n2 : Int, r1 = .int .i64 n2 ∧
   CallsH Tryz.prog 98 #[.pointer (some ⟨j_b, j_o, none⟩), .int .i64 n2] h1 (fun r2 h2 => ∃ t1 : Bool, r2 = .bool t1 ∧
   CondP (!t1) (
   R (.bool false) h2) (
   ∃ x2 : Sl, cellH h2 j_b (j_o + 8) = some (.slice x2.a x2.l x2.c) ∧
   ((0 : Int) ≤ 1 ∧ 1 ≤ ((x2.l : Nat) : Int)) ∧
   CallsH Tryz.prog 149 #[.slice (subA x2.a 1 x2.c 5) (x2.l - 1) (x2.c - 1)] h2 (fun r3 h3 => ∃ x3 : Sl, r3 = .slice x3.a x3.l x3.c ∧
   CanSt h3 j_b (j_o + 8) [.slice x3.a x3.l x3.c] ∧ ∀ h4, Stored h3 j_b (j_o + 8) [.slice x3.a x3.l x3.c] h4 →
   R (.bool true) h4)))))) :
  CallsH Tryz.prog 107 #[.pointer (some ⟨j_b, j_o, none⟩)] h R :=
  calls_of_vc tabOk mixed Tryz.func107 (c := c107) (by kernel_rfl) (n := 27) rfl (rs := [.tmp 2]) (by kernel_rfl) ok107 (args := [.pointer (some ⟨j_b, j_o, none⟩)]) (Nat.le_of_ble_eq_true rfl) (Eq.mpr (by kernel_rfl) hv)
end Go.Sx.Tryz
namespace Go.Sx.Tryz
open Go Go.Sx Go.Proofs
set_option maxRecDepth 100000
set_option linter.unusedVariables false
noncomputable def c108 : Code := (Tryz.f108.body).getD .skip
def a108 : Ann := (.seq .leaf (.seq .leaf (.seq (.seq .leaf (.br .leaf .leaf)) (.reg (.q 0 (.q 1 (.q 2 (.q 3 (.q 4 (.q 5 (.q 6 (.q 7 (.q 8 (.q 9 (.q 10 (.q 11 (.q 12 (.m 13 (.q 14 (.q 15 (.q 16 (.m 17 (.fin) (.nil))))) (.nil)))))))))))))))))))
theorem ok108 : okC tab 43 true c108 a108 = true := by kernel_rfl
theorem vc108 (j_b j_o : Nat) (h : Heap) (R : Value → Heap → Prop)
  (hv : ∃ x1 : Sl, cellH h j_b (j_o + 8) = some (.slice x1.a x1.l x1.c) ∧
   ((0 : Int) ≤ 0 ∧ (0 : Int) < ((x1.l : Nat) : Int)) ∧
   NilP x1.a (fun b1 o1 =>
   ∃ n1 : Int, ∃ t1 : Bool, ∃ n2 : Int, ∃ n3 : Int, CellsAt h b1 (o1 + 1) [.int .u64 n1, .bool t1, .int .u64 n2, .int .u64 n3] ∧
   ∀ b2 h1, Fresh h (.cells #[.int .u64 0, .bool false, .int .u64 0, .int .u64 0] 103) b2 h1 →
   CanSt h1 b2 0 [.int .u64 n1, .bool t1, .int .u64 n2, .int .u64 n3] ∧ ∀ h2, Stored h1 b2 0 [.int .u64 n1, .bool t1, .int .u64 n2, .int .u64 n3] h2 →
   ∃ x2 : Sl, cellH h2 j_b (j_o + 4 + 3) = some (.slice x2.a x2.l x2.c) ∧
   CallsH Tryz.prog 75 #[.slice x2.a x2.l x2.c, .func (.func 150) #[] #[.pointer (some ⟨b2, 0, none⟩)]] h2 (fun r1 h3 => ∃ n4 : Int, r1 = .int .i64 n4 ∧
   CondP (decide ((n4 : Int) < 0)) (
   ∃ x3 : Sl, cellH h3 j_b (j_o + 4 + 3) = some (.slice x3.a x3.l x3.c) ∧
   ∃ n5 : Int, cellH h3 b2 2 = some (.int .u64 n5) ∧
   ∃ n6 : Int, cellH h3 b2 3 = some (.int .u64 n6) ∧
   ∃ x4 : Sl, cellH h3 j_b (j_o + 4 + 3) = some (.slice x4.a x4.l x4.c) ∧
   ((0 : Int) ≤ ((x3.l : Nat) : Int) ∧ ((x3.l : Nat) : Int) ≤ ((x4.l : Nat) : Int)) ∧
   CallsH Tryz.prog 89 #[.slice (subA x4.a x3.l x4.c 3) (x4.l - x3.l) (x4.c - x3.l)] h3 (fun r2 h4 => ∃ x5 : Sl, r2 = .slice x5.a x5.l x5.c ∧
   cellH h4 b2 3 = some (.int .u64 n6) ∧
   cellH h4 b2 2 = some (.int .u64 n5) ∧
   CanSt h4 j_b (j_o + 4) [.int .u64 n5, .int .u64 n6, .slice none 0 0, .slice x5.a x5.l x5.c] ∧ ∀ h5, Stored h4 j_b (j_o + 4) [.int .u64 n5, .int .u64 n6, .slice none 0 0, .slice x5.a x5.l x5.c] h5 →
   R (.tuple #[]) h5)) (
   ∃ n7 : Int, cellH h3 b2 2 = some (.int .u64 n7) ∧
   ∃ n8 : Int, cellH h3 b2 3 = some (.int .u64 n8) ∧
   ∃ x6 : Sl, cellH h3 j_b (j_o + 4 + 3) = some (.slice x6.a x6.l x6.c) ∧
   ((0 : Int) ≤ n4 ∧ n4 ≤ ((x6.l : Nat) : Int)) ∧
   CallsH Tryz.prog 89 #[.slice (subA x6.a n4.toNat x6.c 3) (x6.l - n4.toNat) (x6.c - n4.toNat)] h3 (fun r3 h6 => ∃ x7 : Sl, r3 = .slice x7.a x7.l x7.c ∧
   cellH h6 b2 3 = some (.int .u64 n8) ∧
   cellH h6 b2 2 = some (.int .u64 n7) ∧
   CanSt h6 j_b (j_o + 4) [.int .u64 n7, .int .u64 n8, .slice none 0 0, .slice x7.a x7.l x7.c] ∧ ∀ h7, Stored h6 j_b (j_o + 4) [.int .u64 n7, .int .u64 n8, .slice none 0 0, .slice x7.a x7.l x7.c] h7 →
   R (.tuple #[]) h7))))) :
  CallsH Tryz.prog 108 #[.pointer (some ⟨j_b, j_o, none⟩)] h R :=
  calls_of_vc tabOk mixed Tryz.func108 (c := c108) (by kernel_rfl) (n := 43) rfl (rs := []) (by kernel_rfl) ok108 (args := [.pointer (some ⟨j_b, j_o, none⟩)]) (Nat.le_of_ble_eq_true rfl) (Eq.mpr (by kernel_rfl) hv)
end Go.Sx.Tryz
namespace Go.Sx.Tryz
open Go Go.Sx Go.Proofs
set_option maxRecDepth 100000
set_option linter.unusedVariables false
noncomputable def c150 : Code := (Tryz.f150.body).getD .skip
def a150 : Ann := (.seq .leaf (.seq .leaf .leaf))
theorem ok150 : okC tab 9 true c150 a150 = true := by kernel_rfl
theorem vc150 (x_0 : Int) (x_1 : Int) (x_2 : Sl) (c0_b c0_o : Nat) (h : Heap) (R : Value → Heap → Prop)
  (hv : ∀ b1 h1, Fresh h (.cells #[.int .u64 x_0, .int .u64 x_1, .slice x_2.a x_2.l x_2.c] 85) b1 h1 →
   ∃ n1 : Int, cellH h1 b1 0 = some (.int .u64 n1) ∧
   ∃ n2 : Int, cellH h1 c0_b (c0_o + 2) = some (.int .u64 n2) ∧
   R (.bool (decide ((n1 : Int) > n2))) h1) :
  CallsH Tryz.prog 150 #[.agg #[.int .u64 x_0, .int .u64 x_1, .slice x_2.a x_2.l x_2.c], .pointer (some ⟨c0_b, c0_o, none⟩)] h R :=
  calls_of_vc tabOk mixed Tryz.func150 (c := c150) (by kernel_rfl) (n := 9) rfl (rs := [.tmp 3]) (by kernel_rfl) ok150 (args := [.agg #[.int .u64 x_0, .int .u64 x_1, .slice x_2.a x_2.l x_2.c], .pointer (some ⟨c0_b, c0_o, none⟩)]) (Nat.le_of_ble_eq_true rfl) (Eq.mpr (by kernel_rfl) hv)
end Go.Sx.Tryz
namespace Go.Sx.Tryz
open Go Go.Sx Go.Proofs
set_option maxRecDepth 100000
set_option linter.unusedVariables false
noncomputable def c40 : Code := (Tryz.f40.body).getD .skip
def a40 : Ann := (.seq (.join [(18, .one (.b))] .leaf (.br .leaf .leaf)) (.seq (.seq .leaf (.br (.seq .leaf .leaf) .leaf)) (.seq .leaf (.seq (.seq .leaf (.br .leaf .leaf)) .leaf))))
theorem ok40 : okC tab 58 true c40 a40 = true := by kernel_rfl
theorem vc40 (j_b j_o : Nat) (file_ : Int) (b_ : Sl) (used_ : Bool) (h : Heap) (R : Value → Heap → Prop)
  (hv : ∃ J1 : Bool → Heap → Prop, (∀ t1 : Bool, ∀ h1, J1 t1 h1 → ∀ _ : Env,
   CondP t1 (
   R (.tuple #[]) h1) (
   CondP (!used_) (
   ∃ p1 : Option Addr, cellH h1 j_b j_o = some (.pointer p1) ∧
   CallsH Tryz.prog 99 #[.pointer p1, .int .i64 file_] h1 (fun r1 h2 => ∃ n1 : Int, r1 = .int .i64 n1 ∧
   CallsH Tryz.prog 98 #[.pointer (some ⟨j_b, j_o, none⟩), .int .i64 n1] h2 (fun r2 h3 => ∃ t2 : Bool, r2 = .bool t2 ∧
   R (.tuple #[]) h3))) (
   CallsH Tryz.prog 100 #[.slice b_.a b_.l b_.c] h1 (fun r3 h4 => ∃ n2 : Int, ∃ n3 : Int, r3 = .tuple #[.int .i64 n2, .int .i64 n3] ∧
   CondP (decide ((n2 : Int) < ((b_.l : Nat) : Int))) (
   ∃ p2 : Option Addr, cellH h4 j_b j_o = some (.pointer p2) ∧
   CallsH Tryz.prog 101 #[.pointer p2, .int .i64 file_, .int .i64 n2] h4 (fun r4 h5 => ∃ n4 : Int, r4 = .int .i64 n4 ∧
   CallsH Tryz.prog 98 #[.pointer (some ⟨j_b, j_o, none⟩), .int .i64 n4] h5 (fun r5 h6 => ∃ t3 : Bool, r5 = .bool t3 ∧
   CondP (!t3) (
   R (.tuple #[]) h6) (
   ∃ p3 : Option Addr, cellH h6 j_b j_o = some (.pointer p3) ∧
   CallsH Tryz.prog 102 #[.pointer p3, .int .i64 file_] h6 (fun r6 h7 => ∃ n5 : Int, r6 = .int .i64 n5 ∧
   CallsH Tryz.prog 98 #[.pointer (some ⟨j_b, j_o, none⟩), .int .i64 n5] h7 (fun r7 h8 => ∃ t4 : Bool, r7 = .bool t4 ∧
   R (.tuple #[]) h8)))))) (
   ∃ p4 : Option Addr, cellH h4 j_b j_o = some (.pointer p4) ∧
   CallsH Tryz.prog 102 #[.pointer p4, .int .i64 file_] h4 (fun r8 h9 => ∃ n6 : Int, r8 = .int .i64 n6 ∧
   CallsH Tryz.prog 98 #[.pointer (some ⟨j_b, j_o, none⟩), .int .i64 n6] h9 (fun r9 h10 => ∃ t5 : Bool, r9 = .bool t5 ∧
   R (.tuple #[]) h10))))))) ∧
   ∃ t6 : Bool, cellH h j_b (j_o + 9) = some (.bool t6) ∧
   CondP t6 (
   J1 true h) (
   J1 ((((b_.l : Nat) : Int) : Int) == 0) h)) :
  CallsH Tryz.prog 40 #[.pointer (some ⟨j_b, j_o, none⟩), .int .i64 file_, .slice b_.a b_.l b_.c, .bool used_] h R :=
  calls_of_vc tabOk mixed Tryz.func40 (c := c40) (by kernel_rfl) (n := 58) rfl (rs := []) (by kernel_rfl) ok40 (args := [.pointer (some ⟨j_b, j_o, none⟩), .int .i64 file_, .slice b_.a b_.l b_.c, .bool used_]) (Nat.le_of_ble_eq_true rfl) (Eq.mpr (by kernel_rfl) hv)
end Go.Sx.Tryz
namespace Go.Sx.Tryz
open Go Go.Sx Go.Proofs
set_option maxRecDepth 100000
set_option linter.unusedVariables false
noncomputable def c41 : Code := (Tryz.f41.body).getD .skip
def a41 : Ann := (.seq .leaf (.seq .leaf .leaf))
theorem ok41 : okC tab 9 true c41 a41 = true := by kernel_rfl
theorem vc41 (s_ : Sl) (v_ : Int) (h : Heap) (R : Value → Heap → Prop)
  (hv : CallsH Tryz.prog 103 #[.slice s_.a s_.l s_.c, .int .i64 v_] h (fun r1 h1 => ∃ n1 : Int, r1 = .int .i64 n1 ∧
   R (.bool (decide ((n1 : Int) ≥ 0))) h1)) :
  CallsH Tryz.prog 41 #[.slice s_.a s_.l s_.c, .int .i64 v_] h R :=
  calls_of_vc tabOk mixed Tryz.func41 (c := c41) (by kernel_rfl) (n := 9) rfl (rs := [.tmp 4]) (by kernel_rfl) ok41 (args := [.slice s_.a s_.l s_.c, .int .i64 v_]) (Nat.le_of_ble_eq_true rfl) (Eq.mpr (by kernel_rfl) hv)
end Go.Sx.Tryz
namespace Go.Sx.Tryz
open Go Go.Sx Go.Proofs
set_option maxRecDepth 100000
set_option linter.unusedVariables false
noncomputable def c103 : Code := (Tryz.f103.body).getD .skip
def a103 : Ann := (.seq .leaf (.seq (.seq .leaf (.inn (.loop [(8, .one (.i .i64))] (.seq .leaf (.seq (.br .leaf .leaf) (.seq (.inn (.seq .leaf (.seq .leaf (.br (.seq .leaf .leaf) .leaf)))) .leaf)))))) (.seq .leaf .leaf)))
theorem ok103 : okC tab 19 true c103 a103 = true := by kernel_rfl
theorem vc103 (s_ : Sl) (v_ : Int) (h : Heap) (R : Value → Heap → Prop)
  (hv : ∃ (I1 : Int → Heap → Prop) (mu1 : Int → Heap → Nat), I1 0 h ∧ (∀ n1 : Int, ∀ h1, I1 n1 h1 → ∀ _ : Env,
   CondP (decide ((n1 : Int) < ((s_.l : Nat) : Int))) (
   ((0 : Int) ≤ n1 ∧ (n1 : Int) < ((s_.l : Nat) : Int)) ∧
   NilP s_.a (fun b1 o1 =>
   ∃ n2 : Int, cellH h1 b1 (o1 + n1.toNat) = some (.int .i64 n2) ∧
   CondP ((v_ : Int) == n2) (
   R (.int .i64 n1) h1) (
   I1 (IntKind.i64.wrap (n1 + 1)) h1 ∧ mu1 (IntKind.i64.wrap (n1 + 1)) h1 < mu1 n1 h1))) (
   R (.int .i64 (-1)) h1))) :
  CallsH Tryz.prog 103 #[.slice s_.a s_.l s_.c, .int .i64 v_] h R :=
  calls_of_vc tabOk mixed Tryz.func103 (c := c103) (by kernel_rfl) (n := 19) rfl (rs := [.tmp 4]) (by kernel_rfl) ok103 (args := [.slice s_.a s_.l s_.c, .int .i64 v_]) (Nat.le_of_ble_eq_true rfl) (Eq.mpr (by kernel_rfl) hv)
end Go.Sx.Tryz
namespace Go.Sx.Tryz
open Go Go.Sx Go.Proofs
set_option linter.unusedVariables false
section
variable {H H' : Heap} {S : PH} {R : List Asn} {jb : Nat} {J : Jn}
theorem cloneS_spec {v : Sl} {l : List Seg} (hs : Sat H S R) (hr : v.l = l.length ∧ (v.l = 0 ∨ ∃ b o, v.a = some ⟨b, o, none⟩ ∧ CellsAt H b o (segV l))) (hlen : l.length < 1000000000)
    {K : Value → Heap → Prop} (hk : ∀ (v' : Sl) H', Sat H' S (ownS v' l :: R) → K (.slice v'.a v'.l v'.c) H') : CallsH Tryz.prog 149 #[.slice v.a v.l v.c] H K := by
  apply vc149
  obtain ⟨hl, hr⟩ := hr
  refine CondP.of (fun hc => ?_) (fun hc => ?_)
  · have h0 : v.l = 0 := by
      rcases hr with h | ⟨b, o, h, _⟩
      · exact h
      · rw [h] at hc; cases hc
    have hx : l = [] := List.eq_nil_of_length_eq_zero (by omega)
    subst hx
    exact hk ⟨none, 0, 0⟩ H (own.new 107 5 hs)
  · intro b1 h1 hf
    have hs1 : Sat h1 S (lst b1 107 [] :: R) := hs.fresh hf
    have hs2 := own.ofLst (sz := 5) (n := 0) (c := 0) (xs := []) hs1 rfl (Nat.le_refl _) (by decide) rfl
    refine append_own el95 (v := ⟨some ⟨b1, 0, none⟩, 0, 0⟩) hs2 (m := v.l) (c := v.c) (news := segV l) (by rw [segV_len]; omega) ?_ (segV_one l) (by show (0 + v.l) * 40 ≤ _; omega) (by show 0 + v.l ≤ maxLen; unfold maxLen; omega) fun v' H' hv' hs' => hk v' H' hs'
    rcases hr with h | ⟨b, o, ha, hc⟩
    · exact .inl h
    · exact .inr ⟨b, o, ha, CellsAt.fresh hf hc⟩
theorem behind {T : TypeId} {sz : Nat} {v : Sl} {xs : List Value} {k n : Nat} (h : Sat H S (own T sz v xs :: R)) (hn : v.l = n) (hk : k ≤ n) (hsz : 0 < sz) : (⟨subA v.a k v.c sz, v.l - k, v.c - k⟩ : Sl).l = n - k ∧ ((⟨subA v.a k v.c sz, v.l - k, v.c - k⟩ : Sl).l = 0 ∨ ∃ b o, (⟨subA v.a k v.c sz, v.l - k, v.c - k⟩ : Sl).a = some ⟨b, o, none⟩ ∧ CellsAt H b o (xs.drop (k * sz))) := by
  refine ⟨by show v.l - k = _; omega, ?_⟩
  obtain ⟨hx, hc⟩ := own.len h
  rcases Nat.eq_zero_or_pos (v.l - k) with h0 | h0
  · exact .inl h0
  · right
    rcases Nat.eq_zero_or_pos xs.length with hz | hz
    · rw [hz] at hx
      rcases Nat.mul_eq_zero.1 hx.symm with h | h <;> omega
    · obtain ⟨g, ga, gc⟩ := own.cells h hz
      refine ⟨g, k * sz, ?_, ?_⟩
      · show subA v.a k v.c sz = _
        unfold subA
        rw [if_neg (by omega), ga]
        simp [addr_add]
      · have := cells_sub gc (k * sz) (xs.drop (k * sz)).length
        rw [List.take_length, Nat.zero_add] at this
        exact this
theorem drop_spec {D : Dk} (hs : Sat H S (jA jb J :: dsk J.d D :: R)) (hfl : ∀ x ∈ J.segs, x.file < 32) (hsl : J.segs.length < 1000000) (h0 : 0 < J.segs.length)
    {K : Value → Heap → Prop} (hK : ∀ H', Sat H' S (jA jb (J.dropAt D 0).2.2 :: dsk J.d (J.dropAt D 0).2.1 :: R) → K (.bool (J.dropAt D 0).1) H') : CallsH Tryz.prog 107 #[.pointer (some ⟨jb, 0, none⟩)] H K := by
  apply vc107
  obtain ⟨ve, vs, hs4⟩ := jA_open hs
  have hvl := (ownS.len (hs4.pick 2 rfl)).1
  obtain ⟨g, ga, gc⟩ := ownS.at (hs4.pick 2 rfl) (k := 0) h0
  obtain ⟨hfa, _, _⟩ := getSeg h0
  refine ⟨_, hs4.cell 0 rfl, vs, hs4.cell 8 rfl, ⟨by omega, by omega⟩, NilP.of ga ⟨_, by have := gc.get 0 _ rfl; simpa using this, ?_⟩⟩
  rw [← hfa]
  refine drp_spec (by rw [hfa]; exact hfl _ (List.getElem_mem _)) hs.swap fun h3 hs5 => ⟨_, rfl, done_spec hs5.swap fun h4 hs6 => ⟨_, rfl, CondP.of (fun hc => ?_) (fun hc => ?_)⟩⟩
  · have hz : ¬ (D.drp (fileAt J.segs 0)).1 = 0 := by simpa using hc
    have e : J.dropAt D 0 = (false, (D.drp (fileAt J.segs 0)).2, J.note (D.drp (fileAt J.segs 0)).1) := by rw [Jn.dropAt, if_neg hz]
    have := hK h4 (by rw [e]; exact hs6)
    rw [e] at this; exact this
  · have hz : (D.drp (fileAt J.segs 0)).1 = 0 := by simpa using hc
    have e : J.dropAt D 0 = (true, (D.drp (fileAt J.segs 0)).2, { J.note 0 with segs := J.segs.eraseIdx 0 }) := by rw [Jn.dropAt, if_pos hz]
    rw [hz] at hs6
    obtain ⟨ve, vs, hs7⟩ := jA_open hs6
    have hs8 := hs7.sel [2]
    have hvl := (ownS.len hs8).1
    have hvl : vs.l = J.segs.length := hvl
    refine ⟨vs, hs7.cell 8 rfl, ⟨by omega, by omega⟩, ?_⟩
    have hb := behind (k := 1) hs8 hvl (by omega) (by decide)
    have ed : (segV J.segs).drop (1 * 5) = segV (J.segs.drop 1) := flat_drop segV1_len J.segs 1
    have ee : J.segs.eraseIdx 0 = J.segs.drop 1 := by cases J.segs <;> rfl
    refine cloneS_spec (v := ⟨subA vs.a 1 vs.c 5, vs.l - 1, vs.c - 1⟩) (l := J.segs.drop 1) hs8 ⟨by rw [hb.1, List.length_drop], by have := hb.2; rw [show (J.note 0).segs = J.segs from rfl, ed] at this; exact this⟩ (by rw [List.length_drop]; omega) fun v' h5 hs9 => ⟨v', rfl, ?_⟩
    refine set_segs (J := J.note 0) (ve := ve) (vs := vs) (l := J.segs.drop 1) (hs9.sel [0, 1, 1]) fun h6 hs10 => ?_
    have := hK h6 (by rw [e, ee]; exact hs10.del 1)
    rw [e] at this; exact this
end
end Go.Sx.Tryz
namespace Go.Sx.Tryz
open Go Go.Sx Go.Proofs
set_option linter.unusedVariables false
section
variable {H H' : Heap} {S : PH} {R : List Asn} {jb : Nat} {J : Jn}
def Lg.lift (g : Lg) (h : Hd) : Lg := ⟨h.i, h.t, g.es.drop (match g.es.findIdx? (fun x => decide (h.i < x.1.i)) with | some k => k | none => g.es.length)⟩
def Jn.lift (J : Jn) : Jn := match J.segs with | [] => J | x :: _ => { J with log := J.log.lift x.head }
theorem set_log {J : Jn} {ve vs vs' : Sl} {g : Lg} {h14 : Heap} (hs : Sat h14 S (ownE vs' g.es :: lst jb 97 (jcs J ve vs) :: ownS vs J.segs :: R)) {K : Heap → Prop} (hK : ∀ H', Sat H' S (jA jb { J with log := g } :: R) → K H') :
    CanSt h14 jb 4 (lgV g.fi g.ft vs') ∧ ∀ h15, Stored h14 jb 4 (lgV g.fi g.ft vs') h15 → K h15 := by
  refine (hs.pick 1 rfl).store (by simp [jcs, lgV]) fun h15 hs2 => hK h15 (jA_shut (J := { J with log := g }) (ve := vs') (vs := vs) hs2)
theorem lift_spec (hs : Sat H S (jA jb J :: R)) (h0 : 0 < J.segs.length) (hsl : J.segs.length < 1000000) (hlen : J.log.es.length < 1000000)
    {K : Value → Heap → Prop} (hK : ∀ H', Sat H' S (jA jb J.lift :: R) → K (.tuple #[]) H') : CallsH Tryz.prog 108 #[.pointer (some ⟨jb, 0, none⟩)] H K := by
  apply vc108
  obtain ⟨ve, vs, hs4⟩ := jA_open hs
  have hvl := (ownS.len (hs4.pick 2 rfl)).1
  obtain ⟨g, ga, gc⟩ := ownS.at (hs4.pick 2 rfl) (k := 0) h0
  have hl : J.lift = { J with log := J.log.lift (J.segs[0]).head } := by
    obtain ⟨d, first, many, each, log, segs, broken⟩ := J
    cases segs with
    | nil => simp at h0
    | cons x l => rfl
  generalize hhd : (J.segs[0]).head = hd at hl
  refine ⟨vs, hs4.cell 8 rfl, ⟨by omega, by omega⟩, NilP.of ga ⟨(hd.serial : Int), hd.anew, (hd.i : Int), (hd.t : Int), ?_, ?_⟩⟩
  · have := cells_sub gc 1 4
    rw [← hhd]; exact this
  intro b2 h1 f1
  have hs5 : Sat h1 S (lst b2 103 [.int .u64 0, .bool false, .int .u64 0, .int .u64 0] :: lst jb 97 (jcs J ve vs) :: ownE ve J.log.es :: ownS vs J.segs :: R) := hs4.fresh f1
  refine hs5.store (Nat.le_refl _) fun h2 hs6 => ?_
  have hs6 : Sat h2 S (lst b2 103 (hdV hd) :: lst jb 97 (jcs J ve vs) :: ownE ve J.log.es :: ownS vs J.segs :: R) := hs6
  refine ⟨ve, hs6.swap.cell 7 rfl, ?_⟩
  have hs7 : Sat h2 S (ownE ve J.log.es :: lst b2 103 (hdV hd) :: lst jb 97 (jcs J ve vs) :: ownS vs J.segs :: R) := hs6.sel [2]
  refine index_spec (p := fun x => decide (hd.i < x.1.i)) hs7 (by omega) (fun x hx h K' hs' hK' => ?_) fun h3 hs8 => ⟨_, rfl, ?_⟩
  · refine .inl ⟨150, #[], _, rfl, call150, vc150 _ _ _ b2 0 _ _ ?_⟩
    intro b3 h5 f3
    have hs9 : Sat h5 S (lst b3 85 (eV x) :: ownE ve J.log.es :: lst b2 103 (hdV hd) :: lst jb 97 (jcs J ve vs) :: ownS vs J.segs :: R) := hs'.fresh f3
    refine ⟨_, hs9.cell 0 rfl, _, (hs9.pick 2 rfl).cell 2 rfl, ?_⟩
    have e : decide ((x.1.i : Int) > (hd.i : Int)) = decide (hd.i < x.1.i) := decide_eq_decide.2 (by omega)
    rw [e]; exact hK' h5 hs9.drop
  · have hvl2 := (ownE.len hs8).1
    have hcj := (hs8.pick 2 rfl).cell 7 (v := .slice ve.a ve.l ve.c) rfl
    have hb2 := hs8.pick 1 rfl
    have fin : ∀ (k : Nat) (hk : k ≤ J.log.es.length), k = (match J.log.es.findIdx? (fun x => decide (hd.i < x.1.i)) with | some k => k | none => J.log.es.length) →
        CallsH Tryz.prog 89 #[.slice (subA ve.a k ve.c 3) (ve.l - k) (ve.c - k)] h3 (fun r2 h4 => ∃ x5 : Sl, r2 = .slice x5.a x5.l x5.c ∧
         cellH h4 b2 3 = some (.int .u64 (hd.t : Int)) ∧ cellH h4 b2 2 = some (.int .u64 (hd.i : Int)) ∧
         CanSt h4 jb 4 [.int .u64 (hd.i : Int), .int .u64 (hd.t : Int), .slice none 0 0, .slice x5.a x5.l x5.c] ∧ ∀ h5, Stored h4 jb 4 [.int .u64 (hd.i : Int), .int .u64 (hd.t : Int), .slice none 0 0, .slice x5.a x5.l x5.c] h5 → K (.tuple #[]) h5) := by
      intro k hk hkk
      have hb := behind (k := k) hs8 hvl2 hk (by decide)
      have ed : (entV J.log.es).drop (k * 3) = entV (J.log.es.drop k) := flat_drop eV_len J.log.es k
      rw [ed] at hb
      refine cloneE_spec (v := ⟨subA ve.a k ve.c 3, ve.l - k, ve.c - k⟩) (es := J.log.es.drop k) hs8 ⟨by rw [hb.1, List.length_drop], hb.2⟩ (by rw [List.length_drop]; omega) fun v' h4 hs9 => ⟨v', rfl, (hs9.pick 2 rfl).cell 3 rfl, (hs9.pick 2 rfl).cell 2 rfl, ?_⟩
      refine set_log (S := S) (J := J) (ve := ve) (vs := vs) (vs' := v') (g := J.log.lift hd) (R := ownE ve J.log.es :: lst b2 103 (hdV hd) :: R) ?_ fun h5 hs10 => ?_
      · have e : (J.log.lift hd).es = J.log.es.drop k := by rw [hkk]; rfl
        rw [e]
        exact hs9.sel [0, 2, 2]
      · refine hK h5 ?_
        rw [hl]
        exact (hs10.del 1).del 1
    refine CondP.of (fun hc => ?_) (fun hc => ?_)
    · have hfi : J.log.es.findIdx? (fun x => decide (hd.i < x.1.i)) = none := by
        cases hf : J.log.es.findIdx? (fun x => decide (hd.i < x.1.i)) with
        | none => rfl
        | some k => rw [hf] at hc; exfalso; have h0 : ((k : Nat) : Int) < 0 := of_decide_eq_true hc; omega
      refine ⟨ve, hcj, _, hb2.cell 2 rfl, _, hb2.cell 3 rfl, ve, hcj, ⟨by omega, by omega⟩, ?_⟩
      have := fin ve.l (by omega) (by rw [hfi, hvl2])
      exact this
    · cases hf : J.log.es.findIdx? (fun x => decide (hd.i < x.1.i)) with
      | none => rw [hf] at hc; simp [idxV] at hc
      | some k =>
        have hk : k < J.log.es.length := (List.findIdx?_eq_some_iff_getElem.1 hf).1
        refine ⟨_, hb2.cell 2 rfl, _, hb2.cell 3 rfl, ve, hcj, ⟨by show (0 : Int) ≤ (k : Int); omega, by show (k : Int) ≤ _; omega⟩, ?_⟩
        exact fin k (by omega) (by rw [hf])
end
end Go.Sx.Tryz
namespace Go.Sx.Tryz
open Go Go.Sx Go.Proofs
set_option linter.unusedVariables false
section
variable {H H' : Heap} {S : PH} {R : List Asn} {jb : Nat} {J : Jn}
theorem contains_spec {v : Sl} {l : List Nat} {n : Nat} (hs : Sat H S (ownI v l :: R)) (hlen : l.length < 1000000)
    {K : Value → Heap → Prop} (hK : K (.bool (decide (n ∈ l))) H) : CallsH Tryz.prog 41 #[.slice v.a v.l v.c, .int .i64 (n : Int)] H K := by
  apply vc41
  apply vc103
  have hl := (ownI.len hs).1
  refine ⟨fun m h => ∃ i : Nat, m = i ∧ i ≤ l.length ∧ h = H ∧ n ∉ l.take i, fun m _ => l.length - m.toNat, ⟨0, rfl, Nat.zero_le _, rfl, by simp⟩, ?_⟩
  rintro m h1 ⟨i, rfl, hi, rfl, hni⟩ _
  refine CondP.of (fun hc => ?_) (fun hc => ?_)
  · have hc : i < l.length := by simp at hc; omega
    obtain ⟨g, ga, gc⟩ := ownI.at hs hc
    refine ⟨⟨by omega, by omega⟩, NilP.of ga ⟨_, gc i hc, CondP.of (fun he => ⟨_, rfl, ?_⟩) (fun he => ?_)⟩⟩
    · rw [beq_nat_int] at he
      have he : n = l[i] := by simpa using he
      have : n ∈ l := by rw [he]; exact List.getElem_mem hc
      rw [decide_eq_true (by omega : (i : Int) ≥ 0)]
      rw [decide_eq_true this] at hK; exact hK
    · rw [beq_nat_int] at he
      have he : n ≠ l[i] := by simpa using he
      rw [i64_succ (by omega)]
      refine ⟨⟨i + 1, rfl, hc, rfl, ?_⟩, ?_⟩
      · rw [List.take_succ_eq_append_getElem hc]
        intro hm
        rcases List.mem_append.1 hm with h | h
        · exact hni h
        · simp at h; exact he h
      · show l.length - (i + 1) < l.length - i; omega
  · have hc : i = l.length := by simp at hc; omega
    subst hc
    rw [List.take_length] at hni
    rw [decide_eq_false hni] at hK
    exact ⟨_, rfl, hK⟩
def Jn.tidy (J : Jn) (D : Dk) (f : Nat) (n : Nat) (len : Nat) (used : Bool) : Dk × Jn :=
  if J.broken = true ∨ len = 0 then (D, J) else
  if used = false then ((D.drp f).2, J.note (D.drp f).1) else
  if n < len then (if (D.cut f n).1 = 0 then (((D.cut f n).2.syn f).2, (J.note (D.cut f n).1).note ((D.cut f n).2.syn f).1) else ((D.cut f n).2, J.note (D.cut f n).1))
  else ((D.syn f).2, J.note (D.syn f).1)
theorem tidy_spec {D : Dk} {f : Nat} {v : Sl} {ps : List Par} {t : List UInt8} {used : Bool} (hs : Sat H S (jA jb J :: dsk J.d D :: R)) (hf : f < 32) (hv : RdB S v (pbs ps ++ t)) (hps : used = true → ∀ p ∈ ps, Pok p) (ht : used = true → Tail t) (hlen : v.l < 1000000000)
    {K : Value → Heap → Prop} (hK : ∀ H' S', PH.le S S' → Sat H' S' (jA jb (J.tidy D f (pbs ps).length v.l used).2 :: dsk J.d (J.tidy D f (pbs ps).length v.l used).1 :: R) → K (.tuple #[]) H') : CallsH Tryz.prog 40 #[.pointer (some ⟨jb, 0, none⟩), .int .i64 (f : Int), .slice v.a v.l v.c, .bool used] H K := by
  apply vc40
  obtain ⟨ve, vs, hs1⟩ := jA_open hs
  have hl := RdB.len hv
  rw [List.length_append] at hl
  refine ⟨fun t h => h = H ∧ (t = true ↔ (J.broken = true ∨ v.l = 0)), ?_, ?_⟩
  · rintro t1 h1 ⟨rfl, hiff⟩ _
    refine CondP.of (fun hc => ?_) (fun hc => ?_)
    · have e : J.tidy D f (pbs ps).length v.l used = (D, J) := by rw [Jn.tidy, if_pos (hiff.1 hc)]
      exact hK h1 S (PH.le.refl _) (by rw [e]; exact hs)
    have hn : ¬ (J.broken = true ∨ v.l = 0) := fun h => by rw [hiff.2 h] at hc; cases hc
    refine CondP.of (fun hu => ?_) (fun hu => ?_)
    · have hu : used = false := by simpa using hu
      have e : J.tidy D f (pbs ps).length v.l used = ((D.drp f).2, J.note (D.drp f).1) := by rw [Jn.tidy, if_neg hn, if_pos hu]
      refine ⟨_, hs1.cell 0 rfl, drp_spec hf hs.swap fun h2 hs2 => ⟨_, rfl, done_spec hs2.swap fun h3 hs3 => ⟨_, rfl, hK h3 S (PH.le.refl _) (by rw [e]; exact hs3)⟩⟩⟩
    have hu : used = true := by simpa using hu
    have hu' : ¬ used = false := by rw [hu]; simp
    refine end_spec hs hv (hps hu) (ht hu) hlen fun h2 S1 hS1 hs2 => ⟨_, _, rfl, ?_⟩
    obtain ⟨ve, vs, hs3⟩ := jA_open hs2
    refine CondP.of (fun hc => ?_) (fun hc => ?_)
    · have hlt : (pbs ps).length < v.l := by simp at hc; omega
      refine ⟨_, hs3.cell 0 rfl, cut_spec hf hs2.swap (by omega) fun h3 hs4 => ⟨_, rfl, done_spec hs4.swap fun h4 hs5 => ⟨_, rfl, CondP.of (fun hc => ?_) (fun hc => ?_)⟩⟩⟩
      · have hz : ¬ (D.cut f (pbs ps).length).1 = 0 := by simpa using hc
        have e : J.tidy D f (pbs ps).length v.l used = ((D.cut f (pbs ps).length).2, J.note (D.cut f (pbs ps).length).1) := by rw [Jn.tidy, if_neg hn, if_neg hu', if_pos hlt, if_neg hz]
        exact hK h4 S1 hS1 (by rw [e]; exact hs5)
      · have hz : (D.cut f (pbs ps).length).1 = 0 := by simpa using hc
        have e : J.tidy D f (pbs ps).length v.l used = (((D.cut f (pbs ps).length).2.syn f).2, (J.note (D.cut f (pbs ps).length).1).note ((D.cut f (pbs ps).length).2.syn f).1) := by rw [Jn.tidy, if_neg hn, if_neg hu', if_pos hlt, if_pos hz]
        obtain ⟨ve, vs, hs6⟩ := jA_open hs5
        refine ⟨_, hs6.cell 0 rfl, syn_spec hf hs5.swap fun h5 hs7 => ⟨_, rfl, done_spec hs7.swap fun h6 hs8 => ⟨_, rfl, hK h6 S1 hS1 (by rw [e]; exact hs8)⟩⟩⟩
    · have hlt : ¬ (pbs ps).length < v.l := by simp at hc; omega
      have e : J.tidy D f (pbs ps).length v.l used = ((D.syn f).2, J.note (D.syn f).1) := by rw [Jn.tidy, if_neg hn, if_neg hu', if_neg hlt]
      refine ⟨_, hs3.cell 0 rfl, syn_spec hf hs2.swap fun h5 hs7 => ⟨_, rfl, done_spec hs7.swap fun h6 hs8 => ⟨_, rfl, hK h6 S1 hS1 (by rw [e]; exact hs8)⟩⟩⟩
  · refine ⟨_, hs1.cell 9 rfl, CondP.of (fun hc => ⟨rfl, ⟨fun _ => .inl hc, fun _ => rfl⟩⟩) (fun hc => ⟨rfl, ?_⟩)⟩
    rw [hc]
    constructor
    · intro h; right; simp at h; omega
    · rintro (h | h)
      · cases h
      · simp; omega
end
end Go.Sx.Tryz
namespace Go.Sx.Tryz
open Go Go.Sx Go.Proofs
set_option maxRecDepth 100000
set_option linter.unusedVariables false
noncomputable def c36 : Code := (Tryz.f36.body).getD .skip
def a36 : Ann := (.seq .leaf (.seq (.seq .leaf (.br (.seq .leaf .leaf) .leaf)) (.seq (.seq .leaf (.inn (.loop [(2, .one (.sl)), (13, .one (.i .i64))] (.seq .leaf (.seq (.br .leaf .leaf) (.seq (.inn (.seq .leaf (.seq .leaf .leaf))) .leaf)))))) (.seq .leaf .leaf))))
theorem ok36 : okC tab 27 true c36 a36 = true := by kernel_rfl
theorem vc36 (j_b j_o : Nat) (h : Heap) (R : Value → Heap → Prop)
  (hv : CallsH Tryz.prog 92 #[.pointer (some ⟨j_b, j_o, none⟩)] h (fun r1 h1 => ∃ t1 : Bool, r1 = .bool t1 ∧
   CondP t1 (
   R (.slice none 0 0) h1) (
   ∃ x1 : Sl, cellH h1 j_b (j_o + 4 + 3) = some (.slice x1.a x1.l x1.c) ∧
   ∃ (I1 : Sl → Int → Heap → Prop) (mu1 : Sl → Int → Heap → Nat), I1 ⟨none, 0, 0⟩ 0 h1 ∧ (∀ x2 : Sl, ∀ n1 : Int, ∀ h2, I1 x2 n1 h2 → ∀ _ : Env,
   CondP (decide ((n1 : Int) < ((x1.l : Nat) : Int))) (
   ((0 : Int) ≤ n1 ∧ (n1 : Int) < ((x1.l : Nat) : Int)) ∧
   NilP x1.a (fun b1 o1 =>
   ∃ n2 : Int, ∃ n3 : Int, ∃ x3 : Sl, CellsAt h2 b1 (o1 + n1.toNat * 3) [.int .u64 n2, .int .u64 n3, .slice x3.a x3.l x3.c] ∧
   ∀ b2 h3, Fresh h2 (.cells #[.int .u64 0, .int .u64 0, .slice none 0 0] 85) b2 h3 →
   CanSt h3 b2 0 [.int .u64 n2, .int .u64 n3, .slice x3.a x3.l x3.c] ∧ ∀ h4, Stored h3 b2 0 [.int .u64 n2, .int .u64 n3, .slice x3.a x3.l x3.c] h4 →
   ∃ x4 : Sl, cellH h4 b2 2 = some (.slice x4.a x4.l x4.c) ∧
   CallsH Tryz.prog 71 #[.slice x4.a x4.l x4.c] h4 (fun r2 h5 => ∃ x5 : Sl, r2 = .slice x5.a x5.l x5.c ∧
   CanSt h5 b2 2 [.slice x5.a x5.l x5.c] ∧ ∀ h6, Stored h5 b2 2 [.slice x5.a x5.l x5.c] h6 →
   ∃ n4 : Int, ∃ n5 : Int, ∃ x6 : Sl, CellsAt h6 b2 0 [.int .u64 n4, .int .u64 n5, .slice x6.a x6.l x6.c] ∧
   ∀ b3 h7, Fresh h6 (.cells #[.int .u64 n4, .int .u64 n5, .slice x6.a x6.l x6.c] 85) b3 h7 →
   RunK Tryz.prog (.sl) (Builtin.append_ #[81, 81] 81 #[.slice x2.a x2.l x2.c, .slice (some ⟨b3, 0, none⟩) 1 1]) h7 (fun x7 h8 =>
   I1 x7 (IntKind.i64.wrap (n1 + 1)) h8 ∧ mu1 x7 (IntKind.i64.wrap (n1 + 1)) h8 < mu1 x2 n1 h2)))) (
   R (.slice x2.a x2.l x2.c) h2))))) :
  CallsH Tryz.prog 36 #[.pointer (some ⟨j_b, j_o, none⟩)] h R :=
  calls_of_vc tabOk mixed Tryz.func36 (c := c36) (by kernel_rfl) (n := 27) rfl (rs := [.tmp 2]) (by kernel_rfl) ok36 (args := [.pointer (some ⟨j_b, j_o, none⟩)]) (Nat.le_of_ble_eq_true rfl) (Eq.mpr (by kernel_rfl) hv)
end Go.Sx.Tryz
namespace Go.Sx.Tryz
open Go Go.Sx Go.Proofs
set_option maxRecDepth 100000
set_option linter.unusedVariables false
noncomputable def c46 : Code := (Tryz.f46.body).getD .skip
def a46 : Ann := (.seq .leaf (.seq (.seq .leaf (.seq .leaf (.br (.seq .leaf .leaf) .leaf))) (.seq (.join [(19, .one (.b))] .leaf (.br (.seq .leaf .leaf) .leaf)) (.seq (.seq .leaf (.seq .leaf (.br (.seq .leaf .leaf) .leaf))) (.seq .leaf (.seq (.inn (.loop [] (.seq (.seq .leaf (.br .leaf .leaf)) (.inn .leaf)))) (.seq .leaf .leaf)))))))
theorem ok46 : okC tab 47 true c46 a46 = true := by kernel_rfl
theorem vc46 (j_b j_o : Nat) (index_ : Int) (term_ : Int) (h : Heap) (R : Value → Heap → Prop)
  (hv : CallsH Tryz.prog 77 #[.pointer (some ⟨j_b, j_o, none⟩)] h (fun r1 h1 => ∃ n1 : Int, r1 = .int .i64 n1 ∧
   CondP ((n1 : Int) != 0) (
   R (.int .i64 n1) h1) (
   ∃ J1 : Bool → Heap → Prop, (∀ t1 : Bool, ∀ h2, J1 t1 h2 → ∀ _ : Env,
   CondP t1 (
   R (.int .i64 2) h2) (
   CallsH Tryz.prog 90 #[.pointer (some ⟨j_b, j_o, none⟩), .agg #[.int .u64 0, .bool true, .int .u64 index_, .int .u64 term_]] h2 (fun r2 h3 => ∃ n2 : Int, r2 = .int .i64 n2 ∧
   CondP ((n2 : Int) != 0) (
   R (.int .i64 n2) h3) (
   CanSt h3 j_b (j_o + 4) [.int .u64 index_, .int .u64 term_, .slice none 0 0, .slice none 0 0] ∧ ∀ h4, Stored h3 j_b (j_o + 4) [.int .u64 index_, .int .u64 term_, .slice none 0 0, .slice none 0 0] h4 →
   ∃ (I1 : Heap → Prop) (mu1 : Heap → Nat), I1  h4 ∧ (∀ h5, I1  h5 → ∀ _ : Env,
   ∃ x1 : Sl, cellH h5 j_b (j_o + 8) = some (.slice x1.a x1.l x1.c) ∧
   CondP (decide ((((x1.l : Nat) : Int) : Int) > 1)) (
   CallsH Tryz.prog 107 #[.pointer (some ⟨j_b, j_o, none⟩)] h5 (fun r3 h6 => ∃ t2 : Bool, r3 = .bool t2 ∧
   CondP t2 (
   I1  h6 ∧ mu1  h6 < mu1  h5) (
   CallsH Tryz.prog 91 #[.pointer (some ⟨j_b, j_o, none⟩)] h6 (fun r4 h7 => ∃ n3 : Int, r4 = .int .i64 n3 ∧
   R (.int .i64 n3) h7)))) (
   CallsH Tryz.prog 91 #[.pointer (some ⟨j_b, j_o, none⟩)] h5 (fun r5 h8 => ∃ n4 : Int, r5 = .int .i64 n4 ∧
   R (.int .i64 n4) h8))))))) ∧
   CondP (decide ((index_ : Int) > 4611686018427387904)) (
   J1 true h1) (
   J1 (decide ((term_ : Int) > 4611686018427387904)) h1)))) :
  CallsH Tryz.prog 46 #[.pointer (some ⟨j_b, j_o, none⟩), .int .u64 index_, .int .u64 term_] h R :=
  calls_of_vc tabOk mixed Tryz.func46 (c := c46) (by kernel_rfl) (n := 47) rfl (rs := [.tmp 6]) (by kernel_rfl) ok46 (args := [.pointer (some ⟨j_b, j_o, none⟩), .int .u64 index_, .int .u64 term_]) (Nat.le_of_ble_eq_true rfl) (Eq.mpr (by kernel_rfl) hv)
end Go.Sx.Tryz
namespace Go.Sx.Tryz
open Go Go.Sx Go.Proofs
set_option maxRecDepth 100000
set_option linter.unusedVariables false
noncomputable def c47 : Code := (Tryz.f47.body).getD .skip
def a47 : Ann := (.seq .leaf (.seq (.seq .leaf (.seq .leaf (.br (.seq .leaf .leaf) .leaf))) (.seq (.inn (.loop [] (.seq (.seq .leaf (.br .leaf .leaf)) (.inn (.seq (.seq .leaf (.br (.seq .leaf .leaf) .leaf)) .leaf))))) (.seq .leaf .leaf))))
theorem ok47 : okC tab 36 true c47 a47 = true := by kernel_rfl
theorem vc47 (j_b j_o : Nat) (index_ : Int) (h : Heap) (R : Value → Heap → Prop)
  (hv : CallsH Tryz.prog 77 #[.pointer (some ⟨j_b, j_o, none⟩)] h (fun r1 h1 => ∃ n1 : Int, r1 = .int .i64 n1 ∧
   CondP ((n1 : Int) != 0) (
   R (.int .i64 n1) h1) (
   ∃ (I1 : Heap → Prop) (mu1 : Heap → Nat), I1  h1 ∧ (∀ h2, I1  h2 → ∀ _ : Env,
   ∃ x1 : Sl, cellH h2 j_b (j_o + 8) = some (.slice x1.a x1.l x1.c) ∧
   CondP (decide ((((x1.l : Nat) : Int) : Int) > 1)) (
   ∃ x2 : Sl, cellH h2 j_b (j_o + 8) = some (.slice x2.a x2.l x2.c) ∧
   ((0 : Int) ≤ 1 ∧ (1 : Int) < ((x2.l : Nat) : Int)) ∧
   NilP x2.a (fun b1 o1 =>
   ∃ n2 : Int, cellH h2 b1 (o1 + 5 + 1 + 2) = some (.int .u64 n2) ∧
   CondP (decide ((n2 : Int) ≤ index_)) (
   CallsH Tryz.prog 107 #[.pointer (some ⟨j_b, j_o, none⟩)] h2 (fun r2 h3 => ∃ t1 : Bool, r2 = .bool t1 ∧
   CondP (!t1) (
   R (.int .i64 70) h3) (
   CallsH Tryz.prog 108 #[.pointer (some ⟨j_b, j_o, none⟩)] h3 (fun r3 h4 => r3 = .tuple #[] ∧
   I1  h4 ∧ mu1  h4 < mu1  h2)))) (
   CallsH Tryz.prog 91 #[.pointer (some ⟨j_b, j_o, none⟩)] h2 (fun r4 h5 => ∃ n3 : Int, r4 = .int .i64 n3 ∧
   R (.int .i64 n3) h5)))) (
   CallsH Tryz.prog 91 #[.pointer (some ⟨j_b, j_o, none⟩)] h2 (fun r5 h6 => ∃ n4 : Int, r5 = .int .i64 n4 ∧
   R (.int .i64 n4) h6)))))) :
  CallsH Tryz.prog 47 #[.pointer (some ⟨j_b, j_o, none⟩), .int .u64 index_] h R :=
  calls_of_vc tabOk mixed Tryz.func47 (c := c47) (by kernel_rfl) (n := 36) rfl (rs := [.tmp 4]) (by kernel_rfl) ok47 (args := [.pointer (some ⟨j_b, j_o, none⟩), .int .u64 index_]) (Nat.le_of_ble_eq_true rfl) (Eq.mpr (by kernel_rfl) hv)
end Go.Sx.Tryz

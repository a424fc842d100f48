/-
  Part 10 of the proof: R04, V51, R05, P02, P03.
-/
import Derived.Test.YtegikhoholfcmaaGreatM09
namespace Go.Sx.Tryz
open Go Go.Sx Go.Proofs
set_option linter.unusedVariables false
set_option maxRecDepth 20000
section
variable {H H' : Heap} {S : PH} {R : List Asn}
def zrV : List Value := [.int .u64 0, .int .u64 0, .slice none 0 0, .slice none 0 0, .int .i64 0]
theorem left_parcel {rs : List Rec} {t : List UInt8} {i : Nat} (h : i < rs.length) : pbs ((rs.drop i).map Rec.par) ++ t = parcelB (rs[i].par).1 (rs[i].par).2 ++ (pbs ((rs.drop (i + 1)).map Rec.par) ++ t) := by
  rw [List.drop_eq_getElem_cons h, List.map_cons, pbs_cons, List.append_assoc]
theorem Rec.par_ok {r : Rec} (h : r.ok) : (r.par).1 ≠ 0 ∧ (r.par).2.length ≤ 65536 := Rec.pok h
theorem rtell {b1 b2 : Nat} {g : PL} {y : Sl} {n : Nat} {e : Int} {z : List Value} (hz : z.length = 5) (hs : Sat H S (lst b1 119 (rfV g y n) :: lst b2 119 z :: R)) {K : Value → Heap → Prop}
    (hK : ∀ H', Sat H' S R → K (.tuple #[.agg (rfV g y n).toArray, .int .i64 e]) H') :
    ∃ n5 : Int, ∃ n6 : Int, ∃ x3 : Sl, ∃ x4 : Sl, ∃ n7 : Int, CellsAt H b1 0 [.int .u64 n5, .int .u64 n6, .slice x3.a x3.l x3.c, .slice x4.a x4.l x4.c, .int .i64 n7] ∧
     CanSt H b2 0 [.int .u64 n5, .int .u64 n6, .slice x3.a x3.l x3.c, .slice x4.a x4.l x4.c, .int .i64 n7] ∧ ∀ h6, Stored H b2 0 [.int .u64 n5, .int .u64 n6, .slice x3.a x3.l x3.c, .slice x4.a x4.l x4.c, .int .i64 n7] h6 →
     ∃ n8 : Int, ∃ n9 : Int, ∃ x5 : Sl, ∃ x6 : Sl, ∃ n10 : Int, CellsAt h6 b2 0 [.int .u64 n8, .int .u64 n9, .slice x5.a x5.l x5.c, .slice x6.a x6.l x6.c, .int .i64 n10] ∧
     K (.tuple #[.agg #[.int .u64 n8, .int .u64 n9, .slice x5.a x5.l x5.c, .slice x6.a x6.l x6.c, .int .i64 n10], .int .i64 e]) h6 := by
  refine ⟨_, _, ⟨none, 0, 0⟩, y, _, hs.cells 0 rfl, ?_⟩
  refine hs.swap.store (by simp [hz]) fun h6 hs1 => ?_
  have hp : putL z 0 (rfV g y n) = rfV g y n := by
    unfold putL
    rw [List.take_zero, List.nil_append, List.drop_of_length_le (by rw [hz]; simp [rfV]), List.append_nil]
  have hs1 : Sat h6 S (lst b2 119 (putL z 0 (rfV g y n)) :: lst b1 119 (rfV g y n) :: R) := hs1
  rw [hp] at hs1
  exact ⟨_, _, ⟨none, 0, 0⟩, y, _, hs1.cells 0 rfl, hK h6 hs1.drop.drop⟩
theorem rfile_ok {g : PL} {n : Nat} {x v : Sl} {rs : List Rec} {t : List UInt8} {oldest newest : Bool} {s' : Rd1} (hs : Sat H S R) (hx : EL S x g.es) (hv : RdB S v (pbs (rs.map Rec.par) ++ t)) (hok : ∀ r ∈ rs, r.ok) (ht : Tail t) (hn : t = [] ∨ newest = true)
    (hrun : rs.foldlM (Rd1.step oldest) ⟨g, false, 0⟩ = some s') (hcon : g.Con) (hlen : g.es.length + rs.length < 1000000) (hvl : v.l < 100000000)
    {K : Value → Heap → Prop} (hK : ∀ (y : Sl) H' S', PH.le S S' → EL S' y s'.g.es → Sat H' S' R → K (.tuple #[.agg (rfV s'.g y n).toArray, .int .i64 0]) H') :
    CallsH Tryz.prog 110 #[.agg (rfV g x n).toArray, .slice v.a v.l v.c, .bool oldest, .bool newest] H K := by
  refine vc110 (g.fi : Int) (g.ft : Int) ⟨none, 0, 0⟩ x (n : Int) v oldest newest H K ?_
  obtain ⟨st, st0, stn, sts⟩ := foldM_path hrun
  have hstc : ∀ i, i ≤ rs.length → (st i).g.Con ∧ (st i).g.es.length ≤ g.es.length + i := by
    intro i
    induction i with
    | zero => intro _; rw [st0]; exact ⟨hcon, by simp⟩
    | succ i ih =>
      intro hi
      obtain ⟨h1, h2⟩ := ih (by omega)
      have := sts i (by omega)
      exact ⟨Rd1.step_con h1 this, by have := Rd1.step_len this; omega⟩
  intro b1 h1 f1 b2 h2 f2
  have hs1 : Sat h1 S (lst b1 119 (rfV g x n) :: R) := hs.fresh f1
  have hs2 : Sat h2 S (lst b1 119 (rfV g x n) :: lst b2 119 zrV :: R) := (hs1.fresh f2).swap
  refine ⟨fun z tt m h => ∃ (i : Nat) (S' : PH) (y : Sl), i ≤ rs.length ∧ PH.le S S' ∧ RdB S' z (pbs ((rs.drop i).map Rec.par) ++ t) ∧ z.l ≤ v.l ∧ tt = (st i).begun ∧ m = ((st i).own : Nat) ∧ EL S' y (st i).g.es ∧ Sat h S' (lst b1 119 (rfV (st i).g y n) :: lst b2 119 zrV :: R), fun z _ _ _ => z.l, ⟨0, S, x, Nat.zero_le _, PH.le.refl _, hv, Nat.le_refl _, by rw [st0], by rw [st0]; rfl, by rw [st0]; exact hx, by rw [st0]; exact hs2⟩, ?_⟩
  rintro z tt m h3 ⟨i, S1, y, hi, hS1, hz, hzl, rfl, rfl, hy, hs3⟩ _
  have hzll := RdB.len hz
  have fin : i = rs.length → ∀ (h : Heap), Sat h S1 (lst b1 119 (rfV (st i).g y n) :: lst b2 119 zrV :: R) → ∀ H', Sat H' S1 R → K (.tuple #[.agg (rfV (st i).g y n).toArray, .int .i64 0]) H' := by
    intro hi h hh H' hs'
    subst hi
    rw [stn] at hy ⊢
    exact hK y H' S1 hS1 hy hs'
  refine CondP.of (fun hc => ?_) (fun hc => ?_)
  rotate_left
  · have hz0 : z.l = 0 := by simp at hc; omega
    have hin : i = rs.length := by
      rcases Nat.lt_or_ge i rs.length with h | h
      · exfalso
        rw [left_parcel h, List.length_append, parcelB_len] at hzll; omega
      · omega
    exact rtell rfl hs3 (fin hin _ hs3)
  rcases Nat.lt_or_ge i rs.length with hil | hil
  rotate_left
  ·
    have hin : i = rs.length := by omega
    have hz2 := hz
    rw [hin, List.drop_length, List.map_nil, show pbs [] = [] from rfl, List.nil_append] at hz2
    have hne : t ≠ [] := by
      intro h
      have := RdB.len hz2
      rw [h] at this; simp at this; simp [this] at hc
    have hnew := hn.resolve_left hne
    obtain ⟨kind, body, q, k0, kb, kp, kq⟩ := ht
    refine rtake_torn hs3 hz2 kp kq k0 kb fun h4 hs4 => ⟨_, ⟨none, 0, 0⟩, _, _, rfl, ?_⟩
    refine ⟨fun t2 h => t2 = newest ∧ h = h4, ?_, CondP.of (fun _ => ⟨rfl, rfl⟩) fun hc => by simp at hc⟩
    rintro t2 h5 ⟨rfl, rfl⟩ _
    exact CondP.of (fun _ => rtell rfl hs4 (fin hin _ hs4)) fun hc => by rw [hnew] at hc; cases hc
  have hz2 := hz
  rw [left_parcel hil] at hz2
  have hokr := hok _ (List.getElem_mem hil)
  obtain ⟨k0, kb⟩ := Rec.par_ok hokr
  have hst := sts i hil
  obtain ⟨hci, hli⟩ := hstc i (by omega)
  have hzl2 := RdB.len hz2
  rw [List.length_append] at hzl2
  refine rtake_ok hs3 hz2 k0 kb (by omega) fun xb h4 S2 hS2 hxb hs4 => ⟨_, xb, _, _, rfl, ?_⟩
  have hy := hy.mono hS2
  have hplen := parcelB_len (rs[i].par).1 (rs[i].par).2
  refine ⟨fun t2 h => t2 = false ∧ h = h4, ?_, CondP.of (fun hc => by simp at hc) fun _ => ⟨rfl, rfl⟩⟩
  rintro t2 h5 ⟨rfl, rfl⟩ _
  refine CondP.of (fun hc => by cases hc) fun _ => CondP.of (fun hc => by simp at hc) fun _ => ⟨⟨by omega, by omega⟩, ?_⟩
  simp only [Int.toNat_natCast]
  have hnz : RdB S2 ⟨subA z.a (parcelB (rs[i].par).1 (rs[i].par).2).length z.c 1, z.l - (parcelB (rs[i].par).1 (rs[i].par).2).length, z.c - (parcelB (rs[i].par).1 (rs[i].par).2).length⟩ (pbs ((rs.drop (i + 1)).map Rec.par) ++ t) := by
    have := (hz2.mono hS2).drop (k := (parcelB (rs[i].par).1 (rs[i].par).2).length) (by omega)
    rw [List.drop_left] at this; exact this
  generalize hW : (parcelB (rs[i].par).1 (rs[i].par).2).length = W at *
  have next : ∀ (S3 : PH) (h : Heap) (y' : Sl) (tt : Bool) (m : Int), PH.le S2 S3 → tt = (st (i + 1)).begun → m = ((st (i + 1)).own : Nat) → EL S3 y' (st (i + 1)).g.es → Sat h S3 (lst b1 119 (rfV (st (i + 1)).g y' n) :: lst b2 119 zrV :: R) →
      (∃ (i' : Nat) (S' : PH) (y : Sl), i' ≤ rs.length ∧ PH.le S S' ∧ RdB S' ⟨subA z.a W z.c 1, z.l - W, z.c - W⟩ (pbs ((rs.drop i').map Rec.par) ++ t) ∧ (⟨subA z.a W z.c 1, z.l - W, z.c - W⟩ : Sl).l ≤ v.l ∧ tt = (st i').begun ∧ m = ((st i').own : Nat) ∧ EL S' y (st i').g.es ∧ Sat h S' (lst b1 119 (rfV (st i').g y n) :: lst b2 119 zrV :: R)) ∧ (⟨subA z.a W z.c 1, z.l - W, z.c - W⟩ : Sl).l < z.l := by
    intro S3 h y' tt m hS3 htt hm hy' hh
    refine ⟨⟨i + 1, S3, y', hil, (hS1.trans hS2).trans hS3, hnz.mono hS3, by show z.l - W ≤ v.l; omega, htt, hm, hy', hh⟩, by show z.l - W < z.l; omega⟩
  intro b3 h8 f8
  have hs5 : Sat h8 S2 (rdr2 b3 xb false :: lst b1 119 (rfV (st i).g y n) :: lst b2 119 zrV :: R) := hs4.fresh f8
  cases hr : rs[i] with
  | hd hh =>
    rw [hr] at hxb hokr hst
    have hnb : (st i).begun = false ∧ ∃ p, (st i).g.begin hh oldest = some p ∧ st (i + 1) = ⟨p, true, hh.i⟩ := by
      simp only [Rd1.step] at hst
      split at hst
      · cases hst
      · rename_i hnb
        obtain ⟨p, h1, h2⟩ := Option.map_eq_some_iff.1 hst
        exact ⟨by simpa using hnb, p, h1, h2.symm⟩
    obtain ⟨hnb, p, hp, hst1⟩ := hnb
    refine CondP.of (fun _ => ?_) fun hc => by simp [Rec.par] at hc
    refine rhead_ok hs5 hxb hokr fun h9 hs6 => ⟨_, _, _, _, ⟨none, 0, 0⟩, _, rfl, ?_⟩
    intro b4 h10 f10
    have hs7 := hs6.fresh f10
    refine Sat.store (T := 35) (l := [.int .u64 0, .int .u64 0, .slice none 0 0]) hs7 (Nat.le_refl _) fun h11 hs8 => ?_
    have hs8 : Sat h11 S2 (lst b4 35 [.int .u64 (hh.i : Int), .int .u64 (hh.t : Int), .slice none 0 0] :: rdr2 b3 xb false :: lst b1 119 (rfV (st i).g y n) :: lst b2 119 zrV :: R) := hs8
    refine ⟨fun t5 h => t5 = false ∧ h = h11, ?_, CondP.of (fun hc => by cases hc) fun _ => ⟨hnb, rfl⟩⟩
    rintro t5 h12 ⟨rfl, rfl⟩ _
    refine CondP.of (fun hc => by cases hc) fun _ => ⟨_, hs8.cell 0 rfl, ?_⟩
    refine ⟨fun t6 h => t6 = (oldest || hh.anew) ∧ h = h12, ?_, CondP.of (fun hc => ⟨by rw [hc]; rfl, rfl⟩) fun hc => ⟨by rw [hc]; rfl, rfl⟩⟩
    rintro t6 h14 ⟨rfl, rfl⟩ _
    unfold PL.begin at hp
    refine CondP.of (fun hc => ?_) (fun hc => ?_)
    · rw [if_pos hc] at hp
      have hp : p = ⟨hh.i, hh.t, []⟩ := by cases hp; rfl
      refine ⟨_, _, ⟨none, 0, 0⟩, hs8.cells 0 rfl, ?_⟩
      refine (hs8.pick 2 rfl).store (by simp [rfV]) fun h15 hs9 => ?_
      refine hs9.store (by simp [rfV, putL]) fun h16 hs10 => ?_
      have hs10 : Sat h16 S2 (lst b1 119 (rfV (st (i + 1)).g ⟨none, 0, 0⟩ n) :: lst b4 35 [.int .u64 (hh.i : Int), .int .u64 (hh.t : Int), .slice none 0 0] :: rdr2 b3 xb false :: lst b2 119 zrV :: R) := by
        rw [hst1, hp]; exact hs10
      exact next S2 h16 ⟨none, 0, 0⟩ true _ (PH.le.refl _) (by rw [hst1]) (by rw [hst1]) (by rw [hst1, hp]; exact EL.nil _) ((hs10.del 1).del 1)
    · rw [if_neg (by rw [hc]; simp)] at hp
      refine ⟨_, _, ⟨none, 0, 0⟩, y, _, (hs8.pick 2 rfl).cells 0 rfl, _, _, ⟨none, 0, 0⟩, hs8.cells 0 rfl, ?_⟩
      refine rto_spec (z := ⟨none, 0, 0⟩) hs8 hy (by omega) hp fun y' h17 S3 hS3 hy' hs9 => ⟨_, _, ⟨none, 0, 0⟩, y', _, _, rfl, ?_⟩
      intro b5 h18 f18
      have hs10 := hs9.fresh f18
      refine Sat.store (T := 119) (l := zrV) hs10 (by simp [zrV]) fun h19 hs11 => CondP.of (fun hc => by cases hc) fun _ => ?_
      have hs11 : Sat h19 S3 (lst b5 119 (rfV p y' n) :: lst b4 35 [.int .u64 (hh.i : Int), .int .u64 (hh.t : Int), .slice none 0 0] :: rdr2 b3 xb false :: lst b1 119 (rfV (st i).g y n) :: lst b2 119 zrV :: R) := hs11
      refine ⟨_, _, ⟨none, 0, 0⟩, y', _, hs11.cells 0 rfl, ?_⟩
      refine (hs11.pick 3 rfl).store (by simp [rfV]) fun h21 hs12 => ?_
      have hs12 : Sat h21 S3 (lst b1 119 (rfV (st (i + 1)).g y' n) :: lst b5 119 (rfV p y' n) :: lst b4 35 [.int .u64 (hh.i : Int), .int .u64 (hh.t : Int), .slice none 0 0] :: rdr2 b3 xb false :: lst b2 119 zrV :: R) := by
        rw [hst1]; exact hs12
      exact next S3 h21 y' true _ hS3 (by rw [hst1]) (by rw [hst1]) (by rw [hst1]; exact hy') (((hs12.del 1).del 1).del 1)
  | en e =>
    rw [hr] at hxb hokr hst
    have hnx : (e.i = (st i).g.last.1 + 1 ∧ (st i).g.last.2 ≤ e.t) ∧ st (i + 1) = { st i with g := { (st i).g with es := (st i).g.es ++ [e] } } := by
      simp only [Rd1.step] at hst
      split at hst
      · rename_i hx; injection hst with hst; exact ⟨hx, hst.symm⟩
      · cases hst
    obtain ⟨⟨n1, n2⟩, hst1⟩ := hnx
    obtain ⟨o1, o2, o3⟩ := hokr
    have hbl := e.body_len ⟨o1, o2, o3⟩
    unfold MaxI at o1 o2
    refine CondP.of (fun hc => by simp [Rec.par] at hc) fun _ => CondP.of (fun _ => ?_) fun hc => by simp [Rec.par] at hc
    intro b6 h22 f22
    have hs6 : Sat h22 S2 (lst b6 35 [.int .u64 0, .int .u64 0, .slice none 0 0] :: rdr2 b3 xb false :: lst b1 119 (rfV (st i).g y n) :: lst b2 119 zrV :: R) := hs5.fresh f22
    have hxb : RdB S2 xb (natB e.i ++ (natB e.t ++ (textB e.b ++ []))) := by
      have e1 : natB e.i ++ (natB e.t ++ (textB e.b ++ [])) = e.body := by simp [Ent.body]
      rw [e1]; exact hxb
    have htl : (textB e.b).length ≤ 522 := by
      have := natB_le (n := e.b.length) (by omega)
      simp only [textB, List.length_append]; omega
    have htl2 := natB_le (n := e.t) (by omega)
    refine rn_spec (most := 4611686018427387904) (n := e.i) hs6.swap hxb (by omega) (by omega) (by simp only [List.length_append, List.length_nil]; omega) fun v1 h23 hv1 hs7 => ⟨_, rfl, ?_⟩
    refine hs7.swap.store (by simp) fun h24 hs8 => ?_
    refine rn_spec (most := 4611686018427387904) (n := e.t) hs8.swap hv1 (by omega) (by omega) (by simp only [List.length_append, List.length_nil]; omega) fun v2 h25 hv2 hs9 => ⟨_, rfl, ?_⟩
    refine hs9.swap.store (by simp [putL]) fun h26 hs10 => ?_
    refine rt_spec (most := 512) (s := e.b) hs10.swap hv2 (by omega) (by omega) (by simp; omega) fun v3 h27 hv3 hs11 => ⟨_, rfl, ?_⟩
    refine conv_bytes hs11 (by show e.b.toArray.size < _; simp; omega) fun xz h28 S3 hS3 hxz hs12 => ?_
    refine hs12.swap.store (by simp [putL]) fun h29 hs13 => ?_
    have hs13 : Sat h29 S3 (lst b6 35 (eV (e, xz)) :: rdr2 b3 v3 false :: lst b1 119 (rfV (st i).g y n) :: lst b2 119 zrV :: R) := hs13
    have hxz : RdB S3 xz e.b := by
      have : (ByteArray.mk e.b.toArray).data.toList = e.b := List.toList_toArray
      rw [this] at hxz; exact hxz
    have hy3 := hy.mono hS3
    refine ⟨_, _, ⟨none, 0, 0⟩, y, _, (hs13.pick 2 rfl).cells 0 rfl, ?_⟩
    refine rlast_spec hs13 hy3 (by omega) fun w h30 hs14 => ⟨_, _, w, rfl, ?_⟩
    intro b7 h31 f31
    have hs15 := hs14.fresh f31
    refine Sat.store (T := 35) (l := [.int .u64 0, .int .u64 0, .slice none 0 0]) hs15 (Nat.le_refl _) fun h32 hs16 => ?_
    have hs16 : Sat h32 S3 (lst b7 35 [.int .u64 ((st i).g.last.1 : Int), .int .u64 ((st i).g.last.2 : Int), .slice w.a w.l w.c] :: lst b6 35 (eV (e, xz)) :: rdr2 b3 v3 false :: lst b1 119 (rfV (st i).g y n) :: lst b2 119 zrV :: R) := hs16
    refine ⟨fun t8 h => t8 = false ∧ h = h32, ?_, ?_⟩
    · rintro t8 h33 ⟨rfl, rfl⟩ _
      refine CondP.of (fun hc => by cases hc) fun _ => ?_
      have hb1 := hs16.pick 3 rfl
      have hb6 := hs16.pick 1 rfl
      have tail : ∀ (h42 : Heap) (S4 : PH) (z2 : Sl) (us : List EB), PH.le S3 S4 → us.map (·.1) = (st i).g.es → (∀ q ∈ us, RdB S4 q.2 q.1.b) → Sat h42 S4 (own 35 3 z2 (entV (us ++ [(e, xz)])) :: lst b7 35 [.int .u64 ((st i).g.last.1 : Int), .int .u64 ((st i).g.last.2 : Int), .slice w.a w.l w.c] :: lst b6 35 (eV (e, xz)) :: rdr2 b3 v3 false :: lst b1 119 (rfV (st i).g y n) :: lst b2 119 zrV :: R) →
          CanSt h42 b1 3 [.slice z2.a z2.l z2.c] ∧ ∀ h43, Stored h42 b1 3 [.slice z2.a z2.l z2.c] h43 → (∃ (i' : Nat) (S' : PH) (y : Sl), i' ≤ rs.length ∧ PH.le S S' ∧ RdB S' ⟨subA z.a W z.c 1, z.l - W, z.c - W⟩ (pbs ((rs.drop i').map Rec.par) ++ t) ∧ (⟨subA z.a W z.c 1, z.l - W, z.c - W⟩ : Sl).l ≤ v.l ∧ (st i).begun = (st i').begun ∧ (((st i).own : Nat) : Int) = ((st i').own : Nat) ∧ EL S' y (st i').g.es ∧ Sat h43 S' (lst b1 119 (rfV (st i').g y n) :: lst b2 119 zrV :: R)) ∧ (⟨subA z.a W z.c 1, z.l - W, z.c - W⟩ : Sl).l < z.l := by
        intro h42 S4 z2 us hS4 hus hub hh
        obtain ⟨S5, q1, q2, q3⟩ := sealL (us := us ++ [(e, xz)]) hh (by
          intro q hq
          rcases List.mem_append.1 hq with h | h
          · exact hub q h
          · simp only [List.mem_singleton] at h
            subst h; exact hxz.mono hS4)
        refine (q3.pick 3 rfl).store (by simp [rfV]) fun h43 hs17 => ?_
        have hs17 : Sat h43 S5 (lst b1 119 (rfV (st (i + 1)).g z2 n) :: lst b7 35 [.int .u64 ((st i).g.last.1 : Int), .int .u64 ((st i).g.last.2 : Int), .slice w.a w.l w.c] :: lst b6 35 (eV (e, xz)) :: rdr2 b3 v3 false :: lst b2 119 zrV :: R) := by
          rw [hst1]; exact hs17
        exact next S5 h43 z2 _ _ ((hS3.trans hS4).trans q1) (by rw [hst1]) (by rw [hst1]) (by rw [hst1]; rw [List.map_append, hus] at q2; exact q2) (((hs17.del 1).del 1).del 1)
      refine ⟨y, hb1.cell 3 rfl, _, _, xz, hb6.cells 0 rfl, ⟨fun b8 h35 f35 => ?_, fun b11 h44 f44 => ?_⟩⟩
      · have c1 := newL hs16 f35
        have c1b6 := c1.pick 2 rfl
        have c1b1 := c1.pick 4 rfl
        refine ⟨c1b6.cells 0 rfl, c1b1.cell 3 rfl, ?_, fun b10 h40 f40 => ?_⟩
        · refine appL el36 c1 hy3 (by simp; omega) fun v' h36 ys hy1 hy2 c2 => ⟨(c2.pick 2 rfl).cells 0 rfl, ?_⟩
          intro b9 h37 f37
          have c3 : Sat h37 S3 (lst b9 35 (eV (e, xz)) :: own 35 3 v' (entV ys) :: lst b7 35 [.int .u64 ((st i).g.last.1 : Int), .int .u64 ((st i).g.last.2 : Int), .slice w.a w.l w.c] :: lst b6 35 (eV (e, xz)) :: rdr2 b3 v3 false :: lst b1 119 (rfV (st i).g y n) :: lst b2 119 zrV :: R) := c2.fresh f37
          have hyl : ys.length = (st i).g.es.length := by rw [← hy1, List.length_map]
          exact onesL el36 c3 (by omega) fun v'' h38 c4 => tail h38 S3 v'' ys (PH.le.refl _) hy1 hy2 c4
        · have c2 : Sat h40 S3 (lst b10 35 (eV (e, xz)) :: own 35 3 ⟨some ⟨b8, 0, none⟩, 0, 0⟩ (entV []) :: lst b7 35 [.int .u64 ((st i).g.last.1 : Int), .int .u64 ((st i).g.last.2 : Int), .slice w.a w.l w.c] :: lst b6 35 (eV (e, xz)) :: rdr2 b3 v3 false :: lst b1 119 (rfV (st i).g y n) :: lst b2 119 zrV :: R) := c1.fresh f40
          refine ⟨(c2.pick 5 rfl).cell 3 rfl, ?_⟩
          refine appL el36 c2.swap hy3 (by simp; omega) fun v' h41 ys hy1 hy2 c3 => ?_
          have hyl : ys.length = (st i).g.es.length := by rw [← hy1, List.length_map]
          exact onesL (us := ys) el36 c3.swap (by omega) fun v'' h42 c4 => tail h42 S3 v'' ys (PH.le.refl _) hy1 hy2 c4
      · have c1 : Sat h44 S3 (lst b11 35 (eV (e, xz)) :: lst b7 35 [.int .u64 ((st i).g.last.1 : Int), .int .u64 ((st i).g.last.2 : Int), .slice w.a w.l w.c] :: lst b6 35 (eV (e, xz)) :: rdr2 b3 v3 false :: lst b1 119 (rfV (st i).g y n) :: lst b2 119 zrV :: R) := hs16.fresh f44
        refine ⟨(c1.pick 4 rfl).cell 3 rfl, fun b12 h45 f45 => ?_⟩
        have c2 := newL c1 f45
        refine ⟨(c2.pick 5 rfl).cell 3 rfl, ?_⟩
        refine appL el36 c2 hy3 (by simp; omega) fun v' h46 ys hy1 hy2 c3 => ?_
        have hyl : ys.length = (st i).g.es.length := by rw [← hy1, List.length_map]
        exact onesL (us := ys) el36 c3.swap (by omega) fun v'' h47 c4 => tail h47 S3 v'' ys (PH.le.refl _) hy1 hy2 c4
    · refine re_spec (hs16.pick 2 rfl) (by have := RdB.len hv3; simpa using this) ⟨_, rfl, CondP.of (fun hc => by simp at hc) fun _ => ?_⟩
      have hb6 := hs16.pick 1 rfl
      refine ⟨_, hb6.cell 0 rfl, CondP.of (fun hc => by simp at hc; omega) fun _ => ⟨_, hb6.cell 0 rfl, _, hs16.cell 0 rfl, ?_⟩⟩
      have e1 : IntKind.u64.wrap ((e.i : Int) - 1) = ((st i).g.last.1 : Int) := by rw [u64_in (by omega) (by omega)]; omega
      rw [e1]
      refine CondP.of (fun hc => by simp at hc) fun _ => ⟨_, hb6.cell 1 rfl, _, hs16.cell 1 rfl, ?_, rfl⟩
      show decide ((e.t : Int) < ((st i).g.last.2 : Int)) = false
      exact decide_eq_false (by omega)
  | ct f =>
    rw [hr] at hxb hokr hst
    have hnx : ((st i).own < f ∧ mayB (st i).g.fi (st i).g.last.1 f = true) ∧ st (i + 1) = { st i with g := { (st i).g with es := (st i).g.es.take (f - 1 - (st i).g.fi) } } := by
      simp only [Rd1.step] at hst
      split at hst
      · rename_i hx; injection hst with hst; exact ⟨hx, hst.symm⟩
      · cases hst
    obtain ⟨⟨n1, n2⟩, hst1⟩ := hnx
    have hmm : (st i).g.fi < f ∧ f - 1 ≤ (st i).g.last.1 := by
      unfold mayB at n2
      rw [Bool.and_eq_true] at n2
      exact ⟨of_decide_eq_true n2.1, of_decide_eq_true n2.2⟩
    have hcl := hci.last
    have hf64 : f < 18446744073709551616 := hokr
    refine CondP.of (fun hc => by simp [Rec.par] at hc) fun _ => CondP.of (fun hc => by simp [Rec.par] at hc) fun _ => CondP.of (fun _ => ?_) fun hc => by simp [Rec.par] at hc
    have hxb : RdB S2 xb (natB f ++ []) := by rw [List.append_nil]; exact hxb
    refine rn_spec (most := 18446744073709551615) (n := f) hs5 hxb hf64 (by omega) (by simp) fun v1 h50 hv1 hs6 => ⟨_, rfl, ?_⟩
    refine ⟨fun t9 h => t9 = false ∧ Sat h S2 (rdr2 b3 v1 false :: lst b1 119 (rfV (st i).g y n) :: lst b2 119 zrV :: R), ?_, ?_⟩
    · rintro t9 h51 ⟨rfl, hs7⟩ _
      refine CondP.of (fun hc => by cases hc) fun _ => ?_
      intro b13 h53 f53
      have c1 := newL hs7 f53
      have hb1 := c1.pick 2 rfl
      have e1 : IntKind.u64.wrap (IntKind.u64.wrap ((f : Int) - 1) - ((st i).g.fi : Int)) = ((f - 1 - (st i).g.fi : Nat) : Int) := by
        rw [u64_in (n := (f : Int) - 1) (by omega) (by omega), u64_in (by omega) (by omega)]; omega
      obtain ⟨hyl, hyc⟩ := EL.len hy
      refine ⟨y, hb1.cell 3 rfl, _, hb1.cell 0 rfl, ?_⟩
      rw [e1]
      simp only [Int.toNat_natCast]
      refine ⟨⟨by omega, by omega, by omega⟩, ?_⟩
      refine appL el36 c1 (hy.take (k := f - 1 - (st i).g.fi) (by omega)) (by rw [List.length_take]; simp; omega) fun v' h54 ys hy1 hy2 c2 => ?_
      obtain ⟨S3, q1, q2, q3⟩ := sealL (us := ys) c2 hy2
      rw [hy1] at q2
      refine (q3.pick 1 rfl).store (by simp [rfV]) fun h55 hs8 => ?_
      have hs8 : Sat h55 S3 (lst b1 119 (rfV (st (i + 1)).g v' n) :: rdr2 b3 v1 false :: lst b2 119 zrV :: R) := by rw [hst1]; exact hs8
      exact next S3 h55 v' _ _ q1 (by rw [hst1]) (by rw [hst1]) (by rw [hst1]; exact q2) (hs8.del 1)
    · refine re_spec hs6 (by have := RdB.len hv1; simpa using this) ⟨_, rfl, CondP.of (fun hc => by simp at hc) fun _ => CondP.of (fun hc => by simp at hc; omega) fun _ => ?_⟩
      refine ⟨_, _, ⟨none, 0, 0⟩, y, _, (hs6.pick 1 rfl).cells 0 rfl, ?_⟩
      refine rlast_spec hs6 hy (by omega) fun w h57 hs7 => ⟨_, _, w, rfl, ?_, hs7⟩
      rw [u64_in (n := (f : Int) - 1) (by omega) (by omega)]
      exact decide_eq_false (by omega)
end
end Go.Sx.Tryz
namespace Go.Sx.Tryz
open Go Go.Sx Go.Proofs
set_option maxRecDepth 100000
set_option linter.unusedVariables false
noncomputable def c51 : Code := (Tryz.f51.body).getD .skip
def a51 : Ann := (.seq .leaf (.seq .leaf (.seq (.seq .leaf (.inn (.loop [(4, .one (.sl)), (5, .one (.i .i64))] (.seq (.seq .leaf (.br .leaf .leaf)) (.seq (.inn (.seq .leaf (.seq (.seq .leaf (.br .leaf .leaf)) (.seq .leaf (.seq (.inn (.loop [(8, .one (.i .i64))] (.seq (.seq .leaf (.br .leaf .leaf)) (.inn (.seq .leaf (.seq (.seq .leaf (.br .leaf .leaf)) .leaf)))))) (.seq .leaf (.seq .leaf (.seq .leaf .leaf)))))))) .leaf))))) (.seq .leaf (.seq (.seq .leaf (.inn (.loop [(13, .one (.i .i64))] (.seq (.seq .leaf (.br .leaf .leaf)) (.seq (.inn (.seq (.reg (.q 0 (.q 1 (.q 2 (.q 3 (.q 4 (.q 5 (.q 6 (.q 7 (.q 8 (.q 9 (.q 10 (.q 11 (.q 12 (.q 13 (.q 14 (.m 15 (.q 16 (.q 17 (.q 18 (.m 19 (.m 20 (.q 21 (.fin)) (.nil)) (.nil))))) (.m 19 (.m 15 (.q 16 (.q 17 (.q 18 (.m 20 (.q 21 (.fin)) (.nil))))) (.nil)) (.nil))))))))))))))))))) (.seq (.seq .leaf (.br (.seq .leaf .leaf) .leaf)) .leaf))) .leaf))))) (.seq .leaf .leaf))))))
theorem ok51 : okC tab 101 true c51 a51 = true := by kernel_rfl
theorem vc51 (files_ : Sl) (h : Heap) (R : Value → Heap → Prop)
  (hv : ∀ b1 h1, Fresh h (.cells #[.int .u64 0, .int .u64 0, .slice none 0 0, .slice none 0 0, .int .i64 0] 119) b1 h1 →
   ∃ (I1 : Sl → Int → Heap → Prop) (mu1 : Sl → Int → Heap → Nat), I1 ⟨none, 0, 0⟩ 0 h1 ∧ (∀ x1 : Sl, ∀ n1 : Int, ∀ h2, I1 x1 n1 h2 → ∀ _ : Env,
   CondP (decide ((n1 : Int) < ((files_.l : Nat) : Int))) (
   ((0 : Int) ≤ n1 ∧ (n1 : Int) < ((files_.l : Nat) : Int)) ∧
   NilP files_.a (fun b2 o1 =>
   ∃ x2 : Sl, cellH h2 b2 (o1 + n1.toNat) = some (.slice x2.a x2.l x2.c) ∧
   CallsH Tryz.prog 109 #[.slice x2.a x2.l x2.c] h2 (fun r1 h3 => ∃ n2 : Int, ∃ t1 : Bool, r1 = .tuple #[.int .u64 n2, .bool t1] ∧
   CondP (!t1) (
   I1 x1 (IntKind.i64.wrap (n1 + 1)) h3 ∧ mu1 x1 (IntKind.i64.wrap (n1 + 1)) h3 < mu1 x1 n1 h2) (
   ∃ (I2 : Int → Heap → Prop) (mu2 : Int → Heap → Nat), I2 ((x1.l : Nat) : Int) h3 ∧ (∀ n3 : Int, ∀ h4, I2 n3 h4 → ∀ _ : Env,
   CondP (decide ((n3 : Int) > 0)) (
   ((0 : Int) ≤ IntKind.i64.wrap (n3 - 1) ∧ (IntKind.i64.wrap (n3 - 1) : Int) < ((x1.l : Nat) : Int)) ∧
   NilP x1.a (fun b3 o2 =>
   ∃ n4 : Int, cellH h4 b3 (o2 + (IntKind.i64.wrap (n3 - 1)).toNat) = some (.int .i64 n4) ∧
   ((0 : Int) ≤ n4 ∧ (n4 : Int) < ((files_.l : Nat) : Int)) ∧
   NilP files_.a (fun b4 o3 =>
   ∃ x3 : Sl, cellH h4 b4 (o3 + n4.toNat) = some (.slice x3.a x3.l x3.c) ∧
   CallsH Tryz.prog 109 #[.slice x3.a x3.l x3.c] h4 (fun r2 h5 => ∃ n5 : Int, ∃ t2 : Bool, r2 = .tuple #[.int .u64 n5, .bool t2] ∧
   CondP (decide ((n5 : Int) ≤ n2)) (
   ((0 : Int) ≤ (0 : Int) ∧ (0 : Int) ≤ n3 ∧ n3 ≤ ((x1.c : Nat) : Int)) ∧
   RunK Tryz.prog (.sl) (Builtin.append_ #[45, 45] 45 #[.slice none 0 0, .slice (subA x1.a 0 x1.c 1) n3.toNat x1.c]) h5 (fun x4 h6 =>
   ∀ b5 h7, Fresh h6 (.cells #[.int .i64 n1] 3) b5 h7 →
   RunK Tryz.prog (.sl) (Builtin.append_ #[45, 45] 45 #[.slice x4.a x4.l x4.c, .slice (some ⟨b5, 0, none⟩) 1 1]) h7 (fun x5 h8 =>
   ((0 : Int) ≤ n3 ∧ n3 ≤ ((x1.l : Nat) : Int)) ∧
   RunK Tryz.prog (.sl) (Builtin.append_ #[45, 45] 45 #[.slice x5.a x5.l x5.c, .slice (subA x1.a n3.toNat x1.c 1) (x1.l - n3.toNat) (x1.c - n3.toNat)]) h8 (fun x6 h9 =>
   I1 x6 (IntKind.i64.wrap (n1 + 1)) h9 ∧ mu1 x6 (IntKind.i64.wrap (n1 + 1)) h9 < mu1 x1 n1 h2)))) (
   I2 (IntKind.i64.wrap (n3 - 1)) h5 ∧ mu2 (IntKind.i64.wrap (n3 - 1)) h5 < mu2 n3 h4))))) (
   ((0 : Int) ≤ (0 : Int) ∧ (0 : Int) ≤ n3 ∧ n3 ≤ ((x1.c : Nat) : Int)) ∧
   RunK Tryz.prog (.sl) (Builtin.append_ #[45, 45] 45 #[.slice none 0 0, .slice (subA x1.a 0 x1.c 1) n3.toNat x1.c]) h4 (fun x7 h10 =>
   ∀ b6 h11, Fresh h10 (.cells #[.int .i64 n1] 3) b6 h11 →
   RunK Tryz.prog (.sl) (Builtin.append_ #[45, 45] 45 #[.slice x7.a x7.l x7.c, .slice (some ⟨b6, 0, none⟩) 1 1]) h11 (fun x8 h12 =>
   ((0 : Int) ≤ n3 ∧ n3 ≤ ((x1.l : Nat) : Int)) ∧
   RunK Tryz.prog (.sl) (Builtin.append_ #[45, 45] 45 #[.slice x8.a x8.l x8.c, .slice (subA x1.a n3.toNat x1.c 1) (x1.l - n3.toNat) (x1.c - n3.toNat)]) h12 (fun x9 h13 =>
   I1 x9 (IntKind.i64.wrap (n1 + 1)) h13 ∧ mu1 x9 (IntKind.i64.wrap (n1 + 1)) h13 < mu1 x1 n1 h2))))))))) (
   ∀ b7 h14, Fresh h2 (.cells #[.int .u64 0, .int .u64 0, .slice none 0 0, .slice none 0 0, .int .i64 0] 119) b7 h14 →
   CanSt h14 b7 0 [.int .u64 0, .int .u64 0, .slice none 0 0, .slice none 0 0, .int .i64 ((x1.l : Nat) : Int)] ∧ ∀ h15, Stored h14 b7 0 [.int .u64 0, .int .u64 0, .slice none 0 0, .slice none 0 0, .int .i64 ((x1.l : Nat) : Int)] h15 →
   ∃ (I3 : Int → Heap → Prop) (mu3 : Int → Heap → Nat), I3 0 h15 ∧ (∀ n6 : Int, ∀ h16, I3 n6 h16 → ∀ _ : Env,
   CondP (decide ((n6 : Int) < ((x1.l : Nat) : Int))) (
   ∃ n7 : Int, ∃ n8 : Int, ∃ x10 : Sl, ∃ x11 : Sl, ∃ n9 : Int, CellsAt h16 b7 0 [.int .u64 n7, .int .u64 n8, .slice x10.a x10.l x10.c, .slice x11.a x11.l x11.c, .int .i64 n9] ∧
   ((0 : Int) ≤ n6 ∧ (n6 : Int) < ((x1.l : Nat) : Int)) ∧
   NilP x1.a (fun b8 o4 =>
   ∃ n10 : Int, cellH h16 b8 (o4 + n6.toNat) = some (.int .i64 n10) ∧
   ((0 : Int) ≤ n10 ∧ (n10 : Int) < ((files_.l : Nat) : Int)) ∧
   NilP files_.a (fun b9 o5 =>
   ∃ x12 : Sl, cellH h16 b9 (o5 + n10.toNat) = some (.slice x12.a x12.l x12.c) ∧
   (CallsH Tryz.prog 110 #[.agg #[.int .u64 n7, .int .u64 n8, .slice x10.a x10.l x10.c, .slice x11.a x11.l x11.c, .int .i64 n9], .slice x12.a x12.l x12.c, .bool ((n6 : Int) == 0), .bool ((n6 : Int) == (IntKind.i64.wrap (((x1.l : Nat) : Int) - 1)))] h16 (fun r3 h17 => ∃ n11 : Int, ∃ n12 : Int, ∃ x13 : Sl, ∃ x14 : Sl, ∃ n13 : Int, ∃ n14 : Int, r3 = .tuple #[.agg #[.int .u64 n11, .int .u64 n12, .slice x13.a x13.l x13.c, .slice x14.a x14.l x14.c, .int .i64 n13], .int .i64 n14] ∧
   ∀ b10 h18, Fresh h17 (.cells #[.int .u64 0, .int .u64 0, .slice none 0 0, .slice none 0 0, .int .i64 0] 119) b10 h18 →
   CanSt h18 b10 0 [.int .u64 n11, .int .u64 n12, .slice x13.a x13.l x13.c, .slice x14.a x14.l x14.c, .int .i64 n13] ∧ ∀ h19, Stored h18 b10 0 [.int .u64 n11, .int .u64 n12, .slice x13.a x13.l x13.c, .slice x14.a x14.l x14.c, .int .i64 n13] h19 →
   CondP ((n14 : Int) != 0) (
   CanSt h19 b1 0 [.int .u64 0, .int .u64 0, .slice none 0 0, .slice none 0 0, .int .i64 0] ∧ ∀ h20, Stored h19 b1 0 [.int .u64 0, .int .u64 0, .slice none 0 0, .slice none 0 0, .int .i64 0] h20 →
   ∃ n15 : Int, ∃ n16 : Int, ∃ x15 : Sl, ∃ x16 : Sl, ∃ n17 : Int, CellsAt h20 b1 0 [.int .u64 n15, .int .u64 n16, .slice x15.a x15.l x15.c, .slice x16.a x16.l x16.c, .int .i64 n17] ∧
   R (.tuple #[.agg #[.int .u64 n15, .int .u64 n16, .slice x15.a x15.l x15.c, .slice x16.a x16.l x16.c, .int .i64 n17], .int .i64 n14]) h20) (
   ∃ n18 : Int, ∃ n19 : Int, ∃ x17 : Sl, ∃ x18 : Sl, ∃ n20 : Int, CellsAt h19 b10 0 [.int .u64 n18, .int .u64 n19, .slice x17.a x17.l x17.c, .slice x18.a x18.l x18.c, .int .i64 n20] ∧
   CanSt h19 b7 0 [.int .u64 n18, .int .u64 n19, .slice x17.a x17.l x17.c, .slice x18.a x18.l x18.c, .int .i64 n20] ∧ ∀ h21, Stored h19 b7 0 [.int .u64 n18, .int .u64 n19, .slice x17.a x17.l x17.c, .slice x18.a x18.l x18.c, .int .i64 n20] h21 →
   I3 (IntKind.i64.wrap (n6 + 1)) h21 ∧ mu3 (IntKind.i64.wrap (n6 + 1)) h21 < mu3 n6 h16))) ∧
   (∀ b11 h22, Fresh h16 (.cells #[.int .u64 0, .int .u64 0, .slice none 0 0, .slice none 0 0, .int .i64 0] 119) b11 h22 →
   cellH h22 b9 (o5 + n10.toNat) = some (.slice x12.a x12.l x12.c) ∧
   cellH h22 b8 (o4 + n6.toNat) = some (.int .i64 n10) ∧
   CellsAt h22 b7 0 [.int .u64 n7, .int .u64 n8, .slice x10.a x10.l x10.c, .slice x11.a x11.l x11.c, .int .i64 n9] ∧
   CallsH Tryz.prog 110 #[.agg #[.int .u64 n7, .int .u64 n8, .slice x10.a x10.l x10.c, .slice x11.a x11.l x11.c, .int .i64 n9], .slice x12.a x12.l x12.c, .bool ((n6 : Int) == 0), .bool ((n6 : Int) == (IntKind.i64.wrap (((x1.l : Nat) : Int) - 1)))] h22 (fun r4 h23 => ∃ n21 : Int, ∃ n22 : Int, ∃ x19 : Sl, ∃ x20 : Sl, ∃ n23 : Int, ∃ n24 : Int, r4 = .tuple #[.agg #[.int .u64 n21, .int .u64 n22, .slice x19.a x19.l x19.c, .slice x20.a x20.l x20.c, .int .i64 n23], .int .i64 n24] ∧
   CanSt h23 b11 0 [.int .u64 n21, .int .u64 n22, .slice x19.a x19.l x19.c, .slice x20.a x20.l x20.c, .int .i64 n23] ∧ ∀ h24, Stored h23 b11 0 [.int .u64 n21, .int .u64 n22, .slice x19.a x19.l x19.c, .slice x20.a x20.l x20.c, .int .i64 n23] h24 →
   CondP ((n24 : Int) != 0) (
   CanSt h24 b1 0 [.int .u64 0, .int .u64 0, .slice none 0 0, .slice none 0 0, .int .i64 0] ∧ ∀ h25, Stored h24 b1 0 [.int .u64 0, .int .u64 0, .slice none 0 0, .slice none 0 0, .int .i64 0] h25 →
   ∃ n25 : Int, ∃ n26 : Int, ∃ x21 : Sl, ∃ x22 : Sl, ∃ n27 : Int, CellsAt h25 b1 0 [.int .u64 n25, .int .u64 n26, .slice x21.a x21.l x21.c, .slice x22.a x22.l x22.c, .int .i64 n27] ∧
   R (.tuple #[.agg #[.int .u64 n25, .int .u64 n26, .slice x21.a x21.l x21.c, .slice x22.a x22.l x22.c, .int .i64 n27], .int .i64 n24]) h25) (
   ∃ n28 : Int, ∃ n29 : Int, ∃ x23 : Sl, ∃ x24 : Sl, ∃ n30 : Int, CellsAt h24 b11 0 [.int .u64 n28, .int .u64 n29, .slice x23.a x23.l x23.c, .slice x24.a x24.l x24.c, .int .i64 n30] ∧
   CanSt h24 b7 0 [.int .u64 n28, .int .u64 n29, .slice x23.a x23.l x23.c, .slice x24.a x24.l x24.c, .int .i64 n30] ∧ ∀ h26, Stored h24 b7 0 [.int .u64 n28, .int .u64 n29, .slice x23.a x23.l x23.c, .slice x24.a x24.l x24.c, .int .i64 n30] h26 →
   I3 (IntKind.i64.wrap (n6 + 1)) h26 ∧ mu3 (IntKind.i64.wrap (n6 + 1)) h26 < mu3 n6 h16)))))) (
   ∃ n31 : Int, ∃ n32 : Int, ∃ x25 : Sl, ∃ x26 : Sl, ∃ n33 : Int, CellsAt h16 b7 0 [.int .u64 n31, .int .u64 n32, .slice x25.a x25.l x25.c, .slice x26.a x26.l x26.c, .int .i64 n33] ∧
   CanSt h16 b1 0 [.int .u64 n31, .int .u64 n32, .slice x25.a x25.l x25.c, .slice x26.a x26.l x26.c, .int .i64 n33] ∧ ∀ h27, Stored h16 b1 0 [.int .u64 n31, .int .u64 n32, .slice x25.a x25.l x25.c, .slice x26.a x26.l x26.c, .int .i64 n33] h27 →
   ∃ n34 : Int, ∃ n35 : Int, ∃ x27 : Sl, ∃ x28 : Sl, ∃ n36 : Int, CellsAt h27 b1 0 [.int .u64 n34, .int .u64 n35, .slice x27.a x27.l x27.c, .slice x28.a x28.l x28.c, .int .i64 n36] ∧
   R (.tuple #[.agg #[.int .u64 n34, .int .u64 n35, .slice x27.a x27.l x27.c, .slice x28.a x28.l x28.c, .int .i64 n36], .int .i64 0]) h27))))) :
  CallsH Tryz.prog 51 #[.slice files_.a files_.l files_.c] h R :=
  calls_of_vc tabOk mixed Tryz.func51 (c := c51) (by kernel_rfl) (n := 101) rfl (rs := [.cell 2 119, .tmp 3]) (by kernel_rfl) ok51 (args := [.slice files_.a files_.l files_.c]) (Nat.le_of_ble_eq_true rfl) (Eq.mpr (by kernel_rfl) hv)
end Go.Sx.Tryz
namespace Go.Sx.Tryz
open Go Go.Sx Go.Proofs
set_option linter.unusedVariables false
set_option maxRecDepth 20000
section
variable {H H' : Heap} {S : PH} {R : List Asn}
theorem appI {v x : Sl} {us ys : List Nat} (hs : Sat H S (ownI v us :: R)) (hx : Rd S x 1 (iV ys)) (hb : us.length + ys.length < 1000000)
    {K : Sl → Heap → Prop} (hk : ∀ v' H', Sat H' S (ownI v' (us ++ ys) :: R) → K v' H') :
    RunK Tryz.prog .sl (Builtin.append_ #[45, 45] 45 #[.slice v.a v.l v.c, .slice x.a x.l x.c]) H K := by
  have hvl := (ownI.len hs).1
  have hl := hx.1
  rw [iV_len] at hl
  refine append_own el45 hs (m := x.l) (c := x.c) (news := iV ys) (by rw [iV_len]; omega) ?_ (iV_one ys) (by omega) (by unfold maxLen; omega) fun v' H' hv' hs' => hk v' H' ?_
  · rcases Nat.eq_zero_or_pos x.l with h | h
    · exact .inl h
    · exact .inr (Rd.at hx hs h)
  · have e : iV us ++ iV ys = iV (us ++ ys) := by simp [iV]
    rw [e] at hs'; exact hs'
theorem oneI {v : Sl} {us : List Nat} {n b : Nat} (hs : Sat H S (lst b 3 (iV [n]) :: ownI v us :: R)) (hb : us.length < 1000000)
    {K : Sl → Heap → Prop} (hk : ∀ v' H', Sat H' S (ownI v' (us ++ [n]) :: R) → K v' H') :
    RunK Tryz.prog .sl (Builtin.append_ #[45, 45] 45 #[.slice v.a v.l v.c, .slice (some ⟨b, 0, none⟩) 1 1]) H K := by
  have hvl := (ownI.len hs.swap).1
  refine append_one el45 (v := v) (xs := iV us) hs rfl (iV_one _) (by omega) (by unfold maxLen; omega) fun v' H' hv' hs' => hk v' H' ?_
  have e : iV us ++ iV [n] = iV (us ++ [n]) := by simp [iV]
  rw [e] at hs'; exact hs'
theorem iV_take (l : List Nat) (k : Nat) : (iV l).take (k * 1) = iV (l.take k) := by rw [Nat.mul_one, iV, iV, List.map_take]
theorem iV_drop (l : List Nat) (k : Nat) : (iV l).drop (k * 1) = iV (l.drop k) := by rw [Nat.mul_one, iV, iV, List.map_drop]
theorem RdI.take {x : Sl} {l : List Nat} (h : Rd S x 1 (iV l)) {k : Nat} (hk : k ≤ l.length) : Rd S ⟨subA x.a 0 x.c 1, k, x.c⟩ 1 (iV (l.take k)) := by
  have hl := h.1
  rw [iV_len] at hl
  have hc := h.2.1
  rcases Nat.eq_zero_or_pos k with h0 | h0
  · subst h0; exact ⟨by simp [iV], Nat.zero_le _, .inl rfl⟩
  · rw [subA_zero (Rd.spot3 h (by omega))]
    have := Rd.take h (k := k) (m := x.c) (by omega) (by omega)
    rw [iV_take] at this; exact this
theorem RdI.drop {x : Sl} {l : List Nat} (h : Rd S x 1 (iV l)) {k : Nat} (hk : k ≤ l.length) : Rd S ⟨subA x.a k x.c 1, x.l - k, x.c - k⟩ 1 (iV (l.drop k)) := by
  have hl := h.1
  rw [iV_len] at hl
  have := Rd.drop h (k := k) (by omega)
  rw [iV_drop] at this; exact this
theorem sorted_insert {ser : Nat → Nat} {l : List Nat} {k n : Nat} (hk : k ≤ l.length) (hl : l.Pairwise fun a b => ser a ≤ ser b) (h1 : ∀ j (h : j < l.length), k ≤ j → ser n ≤ ser l[j]) (h2 : k = 0 ∨ ∃ h : k - 1 < l.length, ser l[k - 1] ≤ ser n) :
    (l.take k ++ n :: l.drop k).Pairwise (fun a b => ser a ≤ ser b) := by
  have hl' := hl
  rw [List.pairwise_iff_getElem] at hl
  have hbef : ∀ a ∈ l.take k, ser a ≤ ser n := by
    intro a ha
    obtain ⟨j, hj, rfl⟩ := List.getElem_of_mem ha
    rw [List.length_take] at hj
    rw [List.getElem_take]
    rcases h2 with h2 | ⟨h2, h3⟩
    · omega
    · rcases Nat.lt_or_ge j (k - 1) with h | h
      · exact Nat.le_trans (hl j (k - 1) (by omega) h2 h) h3
      · have : j = k - 1 := by omega
        subst this; exact h3
  have haft : ∀ b ∈ l.drop k, ser n ≤ ser b := by
    intro b hb
    obtain ⟨j, hj, rfl⟩ := List.getElem_of_mem hb
    rw [List.getElem_drop]
    exact h1 _ _ (by omega)
  refine List.pairwise_append.2 ⟨hl'.sublist (List.take_sublist _ _), List.pairwise_cons.2 ⟨haft, hl'.sublist (List.drop_sublist _ _)⟩, ?_⟩
  intro a ha b hb
  rcases List.mem_cons.1 hb with rfl | hb
  · exact hbef a ha
  · exact Nat.le_trans (hbef a ha) (haft b hb)
set_option maxHeartbeats 2000000 in
theorem rscan_spec {fv : Sl} {vs : List Sl} {hds : List (Option Hd)} {Ls : List Nat} {rsf : Nat → List Rec} {tl : Nat → List UInt8} {pl : PL} (hs : Sat H S R) (hf : Rd S fv 1 (fV vs)) (hl : vs.length = hds.length) (hn : vs.length < 20) (hok : ∀ i (h : i < vs.length), FOk S vs[i] ((hds[i]?).getD none))
    (hperm : (ixs hds vs.length).Perm Ls) (hstr : Ls.Pairwise fun a b => serOf hds a < serOf hds b)
    (hseg : ∀ k (h : k < Ls.length) (h2 : Ls[k] < vs.length), SegOk S vs[Ls[k]] (rsf Ls[k]) (tl Ls[k]) ∧ (tl Ls[k] = [] ∨ k + 1 = Ls.length) ∧ vs[Ls[k]].l < 100000000)
    (hrun : readAll true ⟨0, 0, []⟩ (Ls.map rsf) = some pl)
    {K : Value → Heap → Prop} (hK : ∀ (y : Sl) H' S', PH.le S S' → EL S' y pl.es → Sat H' S' R → K (.tuple #[.agg (rfV pl y Ls.length).toArray, .int .i64 0]) H') : CallsH Tryz.prog 51 #[.slice fv.a fv.l fv.c] H K := by
  apply vc51
  intro b1 h1 f1
  have hs1 : Sat h1 S (lst b1 119 zrV :: R) := hs.fresh f1
  have hfl : fv.l = vs.length := by have := hf.1; simp [fV] at this; omega
  have hfile : ∀ (S' : PH) (h : Heap) (L : List Asn) (i : Nat) (hi : i < vs.length), PH.le S S' → Sat h S' L → ∃ fb fo, fv.a = some ⟨fb, fo, none⟩ ∧ cellH h fb (fo + i) = some (.slice vs[i].a vs[i].l vs[i].c) := by
    intro S' h L i hi hS hh
    obtain ⟨fb, fo, fa, fc⟩ := Rd.at (hf.mono hS) hh (by omega)
    exact ⟨fb, fo, fa, by have := fc.get i (.slice vs[i].a vs[i].l vs[i].c) (by simp [fV, hi]); simpa using this⟩
  refine ⟨fun x n h => ∃ (i : Nat) (S' : PH) (l : List Nat), n = i ∧ i ≤ vs.length ∧ PH.le S S' ∧ Rd S' x 1 (iV l) ∧ l.Perm (ixs hds i) ∧ l.Pairwise (fun a b => serOf hds a ≤ serOf hds b) ∧ Sat h S' (lst b1 119 zrV :: R), fun _ n _ => vs.length - n.toNat, ⟨0, S, [], rfl, Nat.zero_le _, PH.le.refl _, Rd.nil _ _, .refl _, .nil, hs1⟩, ?_⟩
  rintro x n h2 ⟨i, S1, l, rfl, hi, hS1, hx, hp, hpw, hs2⟩ _
  have hxl : x.l = l.length := by have := hx.1; rw [iV_len] at this; omega
  have hll : l.length ≤ i := by rw [hp.length_eq]; exact ixs_len hds i
  have hmem : ∀ j (h : j < l.length), l[j] < i ∧ isSeg hds l[j] = true := fun j h => mem_ixs.1 (hp.subset (List.getElem_mem h))
  refine CondP.of (fun hc => ?_) (fun hc => ?_)
  · have hc : i < vs.length := by simp at hc; omega
    obtain ⟨fb, fo, fa, fc⟩ := hfile S1 h2 _ i hc hS1 hs2
    refine ⟨⟨by omega, by omega⟩, NilP.of fa ⟨vs[i], by simpa using fc, ?_⟩⟩
    have hfi := (hok i hc).mono hS1
    have e1 : IntKind.i64.wrap ((i : Int) + 1) = ((i + 1 : Nat) : Int) := i64_succ (by omega)
    rw [e1]
    simp only [Int.toNat_natCast]
    cases hh : (hds[i]?).getD none with
    | none =>
      rw [hh] at hfi
      obtain ⟨t, t1, t2⟩ := hfi
      refine rfirst_torn hs2 t1 t2 fun h3 hs3 => ⟨_, _, rfl, CondP.of (fun _ => ?_) fun hc => by cases hc⟩
      have hsg : isSeg hds i = false := by rw [isSeg, hh]; rfl
      have e2 : ixs hds (i + 1) = ixs hds i := by rw [ixs_succ, if_neg (by rw [hsg]; simp), List.append_nil]
      exact ⟨⟨i + 1, S1, l, rfl, hc, hS1, hx, by rw [e2]; exact hp, hpw, hs3⟩, by omega⟩
    | some hd =>
      rw [hh] at hfi
      obtain ⟨k0, rest, k1, k2⟩ := hfi
      refine rfirst_ok hs2 k1 k0 k2 fun h3 S2 hS2 hs3 => ⟨_, _, rfl, CondP.of (fun hc => by cases hc) fun _ => ?_⟩
      have hsg : isSeg hds i = true := by rw [isSeg, hh]; rfl
      have hse : serOf hds i = hd.serial := by rw [serOf, hh]
      have e2 : ixs hds (i + 1) = ixs hds i ++ [i] := by rw [ixs_succ, if_pos hsg]
      have ins : ∀ (k : Nat) (h : Heap) (S3 : PH), PH.le S2 S3 → k ≤ l.length → (∀ j (h : j < l.length), k ≤ j → serOf hds i ≤ serOf hds l[j]) → (k = 0 ∨ ∃ h : k - 1 < l.length, serOf hds l[k - 1] ≤ serOf hds i) → Sat h S3 (lst b1 119 zrV :: R) →
          ((0 : Int) ≤ (0 : Int) ∧ (0 : Int) ≤ (k : Int) ∧ (k : Int) ≤ ((x.c : Nat) : Int)) ∧
          RunK Tryz.prog (.sl) (Builtin.append_ #[45, 45] 45 #[.slice none 0 0, .slice (subA x.a 0 x.c 1) k x.c]) h (fun x7 h10 =>
          ∀ b6 h11, Fresh h10 (.cells #[.int .i64 (i : Int)] 3) b6 h11 →
          RunK Tryz.prog (.sl) (Builtin.append_ #[45, 45] 45 #[.slice x7.a x7.l x7.c, .slice (some ⟨b6, 0, none⟩) 1 1]) h11 (fun x8 h12 =>
          ((0 : Int) ≤ (k : Int) ∧ (k : Int) ≤ ((x.l : Nat) : Int)) ∧
          RunK Tryz.prog (.sl) (Builtin.append_ #[45, 45] 45 #[.slice x8.a x8.l x8.c, .slice (subA x.a k x.c 1) (x.l - k) (x.c - k)]) h12 (fun x9 h13 =>
          (∃ (i' : Nat) (S' : PH) (l : List Nat), ((i + 1 : Nat) : Int) = i' ∧ i' ≤ vs.length ∧ PH.le S S' ∧ Rd S' x9 1 (iV l) ∧ l.Perm (ixs hds i') ∧ l.Pairwise (fun a b => serOf hds a ≤ serOf hds b) ∧ Sat h13 S' (lst b1 119 zrV :: R)) ∧ vs.length - (i + 1) < vs.length - i))) := by
        intro k h S3 hS3 hk ha hb hh3
        have hxc := hx.2.1
        have hx3 := hx.mono (hS2.trans hS3)
        refine ⟨⟨by omega, by omega, by omega⟩, ?_⟩
        refine appI (v := ⟨none, 0, 0⟩) (us := []) (own.new 3 1 hh3) (RdI.take hx3 hk) (by rw [List.length_take]; simp; omega) fun v1 h10 hs4 => ?_
        intro b6 h11 f11
        have hs5 : Sat h11 S3 (lst b6 3 (iV [i]) :: ownI v1 (l.take k) :: lst b1 119 zrV :: R) := hs4.fresh f11
        refine oneI hs5 (by rw [List.length_take]; omega) fun v2 h12 hs6 => ⟨⟨by omega, by omega⟩, ?_⟩
        refine appI hs6 (RdI.drop hx3 hk) (by rw [List.length_append, List.length_take, List.length_drop]; simp; omega) fun v3 h13 hs7 => ?_
        obtain ⟨S4, q1, q2, q3⟩ := own.fixd hs7
        have e3 : l.take k ++ [i] ++ l.drop k = l.take k ++ i :: l.drop k := by simp
        rw [e3] at q2
        refine ⟨⟨i + 1, S4, l.take k ++ i :: l.drop k, rfl, hc, ((hS1.trans hS2).trans hS3).trans q1, q2, ?_, sorted_insert hk hpw ha hb, q3⟩, by omega⟩
        rw [e2]
        refine List.Perm.trans List.perm_middle ?_
        rw [List.take_append_drop]
        exact ((hp.cons i).trans (List.perm_append_singleton i _).symm)
      refine ⟨fun m h => ∃ (k : Nat) (S3 : PH), m = k ∧ k ≤ l.length ∧ PH.le S2 S3 ∧ (∀ j (h : j < l.length), k ≤ j → serOf hds i ≤ serOf hds l[j]) ∧ Sat h S3 (lst b1 119 zrV :: R), fun m _ => m.toNat, ⟨l.length, S2, by rw [hxl], Nat.le_refl _, PH.le.refl _, (fun j h h2 => by omega), hs3⟩, ?_⟩
      rintro m h4 ⟨k, S3, rfl, hk, hS3, hge, hs4⟩ _
      refine CondP.of (fun hc2 => ?_) (fun hc2 => ?_)
      · have hk0 : 0 < k := by simp at hc2; omega
        have ek : IntKind.i64.wrap ((k : Int) - 1) = ((k - 1 : Nat) : Int) := by rw [i64_in (by omega) (by omega)]; omega
        rw [ek]
        simp only [Int.toNat_natCast]
        have hk1 : k - 1 < l.length := by omega
        obtain ⟨gb, go, ga, gc⟩ := Rd.at (hx.mono (hS2.trans hS3)) hs4 (by omega)
        have hgc := gc.get (k - 1) (.int .i64 (l[k - 1] : Int)) (by simp [iV, hk1])
        obtain ⟨hm1, hm2⟩ := hmem (k - 1) hk1
        have hmv : l[k - 1] < vs.length := by omega
        refine ⟨⟨by omega, by omega⟩, NilP.of ga ⟨_, hgc, ⟨by omega, by omega⟩, ?_⟩⟩
        obtain ⟨fb, fo, fa, fc⟩ := hfile S3 h4 _ _ hmv ((hS1.trans hS2).trans hS3) hs4
        simp only [Int.toNat_natCast]
        refine NilP.of fa ⟨vs[l[k - 1]], fc, ?_⟩
        have hfj := (hok _ hmv).mono ((hS1.trans hS2).trans hS3)
        cases hh2 : (hds[l[k - 1]]?).getD none with
        | none => rw [isSeg, hh2] at hm2; cases hm2
        | some hd2 =>
          rw [hh2] at hfj
          obtain ⟨j0, rest2, j1, j2⟩ := hfj
          have hse2 : serOf hds l[k - 1] = hd2.serial := by rw [serOf, hh2]
          refine rfirst_ok hs4 j1 j0 j2 fun h5 S4 hS4 hs5 => ⟨_, _, rfl, CondP.of (fun hc3 => ?_) fun hc3 => ?_⟩
          · have hc3 := of_decide_eq_true hc3
            exact ins k h5 S4 (hS3.trans hS4) hk hge (.inr ⟨hk1, by rw [hse2, hse]; omega⟩) hs5
          · have hc3 := of_decide_eq_false hc3
            refine ⟨⟨k - 1, S4, rfl, by omega, hS3.trans hS4, fun j hj hj2 => ?_, hs5⟩, by omega⟩
            rcases Nat.lt_or_ge (k - 1) j with h | h
            · exact hge j hj (by omega)
            · have : j = k - 1 := by omega
              subst this; rw [hse2, hse]; omega
      · have hk0 : k = 0 := by simp at hc2; omega
        subst hk0
        exact ins 0 h4 S3 hS3 (Nat.zero_le _) hge (.inl rfl) hs4
  · have hc : i = vs.length := by simp at hc; omega
    subst hc
    have hL : l = Ls := strict_unique (hp.trans hperm) hpw hstr
    subst hL
    intro b7 h14 f14
    have hs3 : Sat h14 S1 (lst b7 119 zrV :: lst b1 119 zrV :: R) := hs2.fresh f14
    refine hs3.store (by simp [zrV]) fun h15 hs4 => ?_
    obtain ⟨p, p0, p1, p2⟩ := readAll_path hrun
    have hs4 : Sat h15 S1 (lst b7 119 (rfV (p 0) ⟨none, 0, 0⟩ x.l) :: lst b1 119 zrV :: R) := by rw [p0]; exact hs4
    have hLl : l.length < 20 := by omega
    have hpc : ∀ k, k ≤ l.length → (p k).Con ∧ (p k).es.length ≤ k * 30000 := by
      intro k
      induction k with
      | zero => intro _; rw [p0]; exact ⟨PL.Con.nil 0 0, by simp⟩
      | succ k ih =>
        intro hk
        obtain ⟨h1, h2⟩ := ih (by omega)
        obtain ⟨s, q1, q2⟩ := p2 k (by rw [List.length_map]; omega)
        have := foldM_con q1 h1
        rw [q2] at this
        have h3 := ((hseg k hk (by have := (hmem k hk).1; omega)).1).2.2.2.2
        simp only [List.getElem_map] at this
        exact ⟨this.1, by have h4 := this.2; rw [Nat.add_mul]; omega⟩
    refine ⟨fun m h => ∃ (k : Nat) (S' : PH) (y : Sl), m = k ∧ k ≤ l.length ∧ PH.le S1 S' ∧ EL S' y (p k).es ∧ Sat h S' (lst b7 119 (rfV (p k) y x.l) :: lst b1 119 zrV :: R), fun m _ => l.length - m.toNat, ⟨0, S1, ⟨none, 0, 0⟩, rfl, Nat.zero_le _, PH.le.refl _, by rw [p0]; exact EL.nil _, hs4⟩, ?_⟩
    rintro m h16 ⟨k, S2, y, rfl, hk, hS2, hy, hs5⟩ _
    refine CondP.of (fun hc => ?_) (fun hc => ?_)
    · have hc : k < l.length := by simp at hc; omega
      have hm := (hmem k hc).1
      obtain ⟨gb, go, ga, gc⟩ := Rd.at (hx.mono hS2) hs5 (by omega)
      have hgc := gc.get k (.int .i64 (l[k] : Int)) (by simp [iV, hc])
      obtain ⟨fb, fo, fa, fc⟩ := hfile S2 h16 _ _ hm (hS1.trans hS2) hs5
      simp only [Int.toNat_natCast]
      refine ⟨_, _, ⟨none, 0, 0⟩, y, _, hs5.cells 0 rfl, ⟨by omega, by omega⟩, NilP.of ga ⟨_, hgc, ⟨by omega, by omega⟩, ?_⟩⟩
      simp only [Int.toNat_natCast]
      refine NilP.of fa ⟨vs[l[k]], fc, ?_⟩
      obtain ⟨⟨g1, g2, g3, g4, g5⟩, g6, g7⟩ := hseg k hc hm
      obtain ⟨s, q1, q2⟩ := p2 k (by simpa using hc)
      have e1 : ((k : Int) == 0) = (true && k == 0) := by
        have := beq_nat_int k 0
        simpa using this
      have e2 : ((k : Int) == IntKind.i64.wrap (((x.l : Nat) : Int) - 1)) = decide (k + 1 = l.length) := by
        rw [i64_in (by omega) (by omega), hxl]
        rcases Decidable.em (k + 1 = l.length) with h | h
        · rw [decide_eq_true h, show (k : Int) = ((l.length : Nat) : Int) - 1 by omega]; simp
        · rw [decide_eq_false h]
          exact beq_eq_false_iff_ne.2 (by omega)
      rw [e1, e2]
      simp only [List.getElem_map] at q1
      have hpk := hpc k hk
      have rd : ∀ (h : Heap) (L : List Asn), Sat h S2 L → ∀ {K : Value → Heap → Prop}, (∀ (y' : Sl) H' S', PH.le S2 S' → EL S' y' (p (k + 1)).es → Sat H' S' L → K (.tuple #[.agg (rfV (p (k + 1)) y' x.l).toArray, .int .i64 0]) H') →
          CallsH Tryz.prog 110 #[.agg (rfV (p k) y x.l).toArray, .slice vs[l[k]].a vs[l[k]].l vs[l[k]].c, .bool (true && k == 0), .bool (decide (k + 1 = l.length))] h K := by
        intro h L hh K hK'
        refine rfile_ok hh hy (g1.mono (hS1.trans hS2)) g2 g3 (g6.imp id fun h => decide_eq_true h) q1 hpk.1 (by omega) g7 fun y' h4 S3 hS3 hy' hs6 => ?_
        rw [q2] at hy' ⊢
        exact hK' y' h4 S3 hS3 hy' hs6
      rw [i64_succ (by omega)]
      refine ⟨?_, fun b11 h22 f22 => ?_⟩
      · refine rd h16 _ hs5 fun y' h17 S3 hS3 hy' hs6 => ⟨_, _, ⟨none, 0, 0⟩, y', _, _, rfl, ?_⟩
        intro b10 h18 f18
        have hs7 : Sat h18 S3 (lst b10 119 zrV :: lst b7 119 (rfV (p k) y x.l) :: lst b1 119 zrV :: R) := hs6.fresh f18
        refine hs7.store (by simp [zrV]) fun h19 hs8 => CondP.of (fun hc => by simp at hc) fun _ => ?_
        have hs8 : Sat h19 S3 (lst b10 119 (rfV (p (k + 1)) y' x.l) :: lst b7 119 (rfV (p k) y x.l) :: lst b1 119 zrV :: R) := hs8
        refine ⟨_, _, ⟨none, 0, 0⟩, y', _, hs8.cells 0 rfl, ?_⟩
        refine hs8.swap.store (by simp [rfV]) fun h21 hs9 => ?_
        have hs9 : Sat h21 S3 (lst b7 119 (rfV (p (k + 1)) y' x.l) :: lst b10 119 (rfV (p (k + 1)) y' x.l) :: lst b1 119 zrV :: R) := hs9
        exact ⟨⟨k + 1, S3, y', rfl, hc, hS2.trans hS3, hy', hs9.del 1⟩, by simp only [Int.toNat_natCast]; omega⟩
      · have hs6 : Sat h22 S2 (lst b11 119 zrV :: lst b7 119 (rfV (p k) y x.l) :: lst b1 119 zrV :: R) := hs5.fresh f22
        obtain ⟨gb2, go2, ga2, gc2⟩ := Rd.at (hx.mono hS2) hs6 (by omega)
        rw [ga] at ga2; cases ga2
        have hgc2 := gc2.get k (.int .i64 (l[k] : Int)) (by simp [iV, hc])
        obtain ⟨fb2, fo2, fa2, fc2⟩ := hfile S2 h22 _ _ hm (hS1.trans hS2) hs6
        rw [fa] at fa2; cases fa2
        refine ⟨fc2, hgc2, hs6.swap.cells 0 rfl, ?_⟩
        refine rd h22 _ hs6 fun y' h23 S3 hS3 hy' hs7 => ⟨_, _, ⟨none, 0, 0⟩, y', _, _, rfl, ?_⟩
        refine hs7.store (by simp [zrV]) fun h24 hs8 => CondP.of (fun hc => by simp at hc) fun _ => ?_
        have hs8 : Sat h24 S3 (lst b11 119 (rfV (p (k + 1)) y' x.l) :: lst b7 119 (rfV (p k) y x.l) :: lst b1 119 zrV :: R) := hs8
        refine ⟨_, _, ⟨none, 0, 0⟩, y', _, hs8.cells 0 rfl, ?_⟩
        refine hs8.swap.store (by simp [rfV]) fun h21 hs9 => ?_
        have hs9 : Sat h21 S3 (lst b7 119 (rfV (p (k + 1)) y' x.l) :: lst b11 119 (rfV (p (k + 1)) y' x.l) :: lst b1 119 zrV :: R) := hs9
        exact ⟨⟨k + 1, S3, y', rfl, hc, hS2.trans hS3, hy', hs9.del 1⟩, by simp only [Int.toNat_natCast]; omega⟩
    · have hc : k = l.length := by simp at hc; omega
      subst hc
      have hpl : p l.length = pl := by
        have := p1
        rw [List.length_map] at this
        exact this
      rw [hpl, hxl] at hs5
      rw [hpl] at hy
      refine ⟨_, _, ⟨none, 0, 0⟩, y, _, hs5.cells 0 rfl, ?_⟩
      refine hs5.swap.store (by simp [zrV]) fun h27 hs6 => ?_
      have hs6 : Sat h27 S2 (lst b1 119 (rfV pl y l.length) :: lst b7 119 (rfV pl y l.length) :: R) := hs6
      exact ⟨_, _, ⟨none, 0, 0⟩, y, _, hs6.cells 0 rfl, hK y h27 S2 (hS1.trans hS2) hy hs6.drop.drop⟩
end
end Go.Sx.Tryz
namespace Go.Sx.Tryz
open Go Go.Sx Go.Proofs
set_option linter.unusedVariables false
theorem nodup_len : ∀ {l m : List Nat}, l.Nodup → (∀ x ∈ l, x ∈ m) → l.length ≤ m.length
  | [], m, _, _ => Nat.zero_le _
  | x :: l, m, h, hs => by
    rw [List.nodup_cons] at h
    have hx := hs x List.mem_cons_self
    have := nodup_len (l := l) (m := m.erase x) h.2 fun y hy => (List.mem_erase_of_ne (by rintro rfl; exact h.1 hy)).2 (hs y (List.mem_cons_of_mem _ hy))
    rw [List.length_erase_of_mem hx] at this
    have h0 : 0 < m.length := List.length_pos_of_mem hx
    rw [List.length_cons]; omega
theorem pbs_take : ∀ (ps : List Par) (m : Nat), (∀ p ∈ ps, Pok p) → ∃ j t, (pbs ps).take m = pbs (ps.take j) ++ t ∧ Tail t ∧ j ≤ ps.length ∧ ((pbs ps).length ≤ m → j = ps.length ∧ t = [])
  | [], m, _ => ⟨0, [], by simp [pbs], Tail.nil, Nat.zero_le _, fun _ => ⟨rfl, rfl⟩⟩
  | p :: ps, m, h => by
    rw [pbs_cons]
    have hp := h p List.mem_cons_self
    by_cases hm : (parcelB p.1 p.2).length ≤ m
    · obtain ⟨j, t, h1, h2, h3, h4⟩ := pbs_take ps (m - (parcelB p.1 p.2).length) fun x hx => h x (List.mem_cons_of_mem _ hx)
      refine ⟨j + 1, t, ?_, h2, by simpa using h3, fun hl => ?_⟩
      · rw [List.take_append, List.take_of_length_le hm, h1, List.take_succ_cons, pbs_cons, List.append_assoc]
      · rw [List.length_append] at hl
        obtain ⟨k1, k2⟩ := h4 (by omega)
        exact ⟨by rw [k1]; rfl, k2⟩
    · refine ⟨0, (parcelB p.1 p.2).take m, ?_, ⟨p.1, p.2, (parcelB p.1 p.2).drop m, hp.1, hp.2, (List.take_append_drop _ _).symm, ?_⟩, Nat.zero_le _, fun hl => ?_⟩
      · rw [List.take_append_of_le_length (by omega)]; rfl
      · intro e
        have := congrArg List.length e
        rw [List.length_drop, List.length_nil] at this; omega
      · rw [List.length_append] at hl; omega
theorem Tail.take {t : List UInt8} (h : Tail t) (m : Nat) : Tail (t.take m) := by
  obtain ⟨k, b, q, h1, h2, h3, h4⟩ := h
  refine ⟨k, b, t.drop m ++ q, h1, h2, ?_, ?_⟩
  · rw [← List.append_assoc, List.take_append_drop]; exact h3
  · intro e; exact h4 (List.append_eq_nil_iff.1 e).2
structure Lay (D : Dk) (first many : Nat) (G : List Sg) (t : List UInt8) (s : PL) : Prop where
  file : ∀ g ∈ G, g.file < many
  nodup : (G.map (·.file)).Nodup
  ser : G.Pairwise fun a b => a.hd.serial < b.hd.serial
  ok : ∀ g ∈ G, g.hd.ok ∧ (∀ r ∈ g.rs, r.ok) ∧ g.rs.length < 29000
  cont : ∀ k (h : k < G.length), (D.f (first + G[k].file)).b = pbs (G[k].recs.map Rec.par) ++ (if k + 1 = G.length then t else [])
  tail : Tail t
  junk : ∀ i, i < many → (∀ g ∈ G, g.file ≠ i) → Tail (D.f (first + i)).b
  read : rdAll true ⟨0, 0, []⟩ G = some s
def hdsOf (many : Nat) (G : List Sg) : List (Option Hd) := (List.range many).map fun i => (G.find? fun g => g.file == i).map (·.hd)
def rsOf (G : List Sg) (i : Nat) : List Rec := match G.find? (fun g => g.file == i) with | some g => g.recs | none => []
def tlOf (G : List Sg) (t : List UInt8) (i : Nat) : List UInt8 := match G.getLast? with | some g => if g.file = i then t else [] | none => []
theorem find_file : ∀ {G : List Sg} {g : Sg}, (G.map (·.file)).Nodup → g ∈ G → G.find? (fun x => x.file == g.file) = some g
  | [], g, _, h => by cases h
  | x :: G, g, hn, h => by
    rw [List.map_cons, List.nodup_cons] at hn
    rcases List.mem_cons.1 h with rfl | h
    · rw [List.find?_cons_of_pos (by simp)]
    · have hne : x.file ≠ g.file := by
        intro e; apply hn.1; rw [e]; exact List.mem_map.2 ⟨g, h, rfl⟩
      rw [List.find?_cons_of_neg (by simpa using hne)]
      exact find_file hn.2 h
theorem find_none {G : List Sg} {i : Nat} (h : ∀ g ∈ G, g.file ≠ i) : G.find? (fun x => x.file == i) = none := by
  rw [List.find?_eq_none]
  intro g hg; simpa using h g hg
theorem find_some {G : List Sg} {i : Nat} {g : Sg} (h : G.find? (fun x => x.file == i) = some g) : g ∈ G ∧ g.file = i :=
  ⟨List.mem_of_find?_eq_some h, by have := List.find?_some h; simpa using this⟩
theorem hdsOf_len (many : Nat) (G : List Sg) : (hdsOf many G).length = many := by simp [hdsOf]
theorem hdsOf_get {many : Nat} {G : List Sg} {i : Nat} (h : i < many) : ((hdsOf many G)[i]?).getD none = (G.find? fun g => g.file == i).map (·.hd) := by
  simp [hdsOf, h]
namespace Lay
variable {D : Dk} {first many : Nat} {G : List Sg} {t : List UInt8} {s : PL}
theorem len (h : Lay D first many G t s) : G.length ≤ many := by
  have := nodup_len h.nodup (m := List.range many) fun x hx => by
    obtain ⟨g, hg, rfl⟩ := List.mem_map.1 hx
    exact List.mem_range.2 (h.file g hg)
  simpa using this
theorem perm (h : Lay D first many G t s) : (ixs (hdsOf many G) many).Perm (G.map (·.file)) := by
  refine (List.perm_ext_iff_of_nodup ?_ h.nodup).2 fun i => ?_
  · exact List.Nodup.sublist List.filter_sublist List.nodup_range
  · rw [mem_ixs]
    constructor
    · rintro ⟨h1, h2⟩
      unfold isSeg at h2
      rw [hdsOf_get h1] at h2
      cases hf : G.find? (fun g => g.file == i) with
      | none => rw [hf] at h2; cases h2
      | some g =>
        obtain ⟨q1, q2⟩ := find_some hf
        exact List.mem_map.2 ⟨g, q1, q2⟩
    · intro hi
      obtain ⟨g, hg, rfl⟩ := List.mem_map.1 hi
      refine ⟨h.file g hg, ?_⟩
      unfold isSeg
      rw [hdsOf_get (h.file g hg), find_file h.nodup hg]; rfl
theorem serOf_eq (h : Lay D first many G t s) {g : Sg} (hg : g ∈ G) : serOf (hdsOf many G) g.file = g.hd.serial := by
  unfold serOf
  rw [hdsOf_get (h.file g hg), find_file h.nodup hg]; rfl
theorem sorted (h : Lay D first many G t s) : (G.map (·.file)).Pairwise fun a b => serOf (hdsOf many G) a < serOf (hdsOf many G) b := by
  rw [List.pairwise_map]
  have h1 := h.ser
  rw [List.pairwise_iff_getElem] at h1 ⊢
  intro i j hi hj hij
  rw [h.serOf_eq (List.getElem_mem hi), h.serOf_eq (List.getElem_mem hj)]
  exact h1 i j hi hj hij
theorem rsOf_eq (h : Lay D first many G t s) {g : Sg} (hg : g ∈ G) : rsOf G g.file = g.recs := by
  unfold rsOf; rw [find_file h.nodup hg]
theorem run (h : Lay D first many G t s) : readAll true ⟨0, 0, []⟩ ((G.map (·.file)).map (rsOf G)) = some s := by
  rw [List.map_map]
  have : G.map (rsOf G ∘ fun g => g.file) = G.map Sg.recs := List.map_congr_left fun g hg => h.rsOf_eq hg
  rw [this, readAll_eq]; exact h.read
theorem recs_ok (h : Lay D first many G t s) {g : Sg} (hg : g ∈ G) : (∀ r ∈ g.recs, r.ok) ∧ g.recs.length < 30000 := by
  obtain ⟨h1, h2, h3⟩ := h.ok g hg
  refine ⟨fun r hr => ?_, by show (_ :: g.rs).length < _; rw [List.length_cons]; omega⟩
  rcases List.mem_cons.1 hr with rfl | hr
  · exact h1
  · exact h2 r hr
theorem tl_eq (h : Lay D first many G t s) {k : Nat} (hk : k < G.length) : tlOf G t G[k].file = if k + 1 = G.length then t else [] := by
  unfold tlOf
  rw [List.getLast?_eq_getElem?, List.getElem?_eq_getElem (by omega)]
  simp only
  by_cases h1 : k + 1 = G.length
  · rw [if_pos h1]
    have : G.length - 1 = k := by omega
    simp only [this, if_true]
  · rw [if_neg h1, if_neg]
    intro e
    have hn := h.nodup
    have hp : (G.map (·.file)).Pairwise (· ≠ ·) := hn
    rw [List.pairwise_iff_getElem] at hp
    have := hp k (G.length - 1) (by simpa using hk) (by simp; omega) (by omega)
    simp only [List.getElem_map] at this
    exact this e.symm
theorem seg_cont (h : Lay D first many G t s) {k : Nat} (hk : k < G.length) : (D.f (first + G[k].file)).b = pbs ((rsOf G G[k].file).map Rec.par) ++ tlOf G t G[k].file := by
  rw [h.tl_eq hk, h.rsOf_eq (List.getElem_mem hk)]; exact h.cont k hk
theorem hok (h : Lay D first many G t s) {i : Nat} (hi : i < many) : HOk (D.f (first + i)).b (((hdsOf many G)[i]?).getD none) := by
  rw [hdsOf_get hi]
  cases hf : G.find? (fun g => g.file == i) with
  | none => exact h.junk i hi (by rw [List.find?_eq_none] at hf; intro g hg; simpa using hf g hg)
  | some g =>
    obtain ⟨q1, rfl⟩ := find_some hf
    obtain ⟨k, hk, rfl⟩ := List.getElem_of_mem q1
    refine ⟨(h.ok _ q1).1, pbs ((G[k].rs).map Rec.par) ++ (if k + 1 = G.length then t else []), ?_⟩
    rw [h.cont k hk]
    show pbs ((Rec.hd G[k].hd :: G[k].rs).map Rec.par) ++ _ = _
    rw [List.map_cons, pbs_cons, List.append_assoc]; rfl
theorem seg (h : Lay D first many G t s) {k : Nat} (hk : k < (G.map (·.file)).length) :
    ((D.f (first + (G.map (·.file))[k])).b = pbs ((rsOf G (G.map (·.file))[k]).map Rec.par) ++ tlOf G t (G.map (·.file))[k] ∧ (∀ r ∈ rsOf G (G.map (·.file))[k], r.ok) ∧ Tail (tlOf G t (G.map (·.file))[k]) ∧ (rsOf G (G.map (·.file))[k]).length < 30000) ∧ (tlOf G t (G.map (·.file))[k] = [] ∨ k + 1 = (G.map (·.file)).length) := by
  have hk' : k < G.length := by simpa using hk
  simp only [List.getElem_map, List.length_map]
  refine ⟨⟨h.seg_cont hk', ?_, ?_, ?_⟩, ?_⟩
  · rw [h.rsOf_eq (List.getElem_mem hk')]; exact (h.recs_ok (List.getElem_mem hk')).1
  · rw [h.tl_eq hk']; split
    · exact h.tail
    · exact Tail.nil
  · rw [h.rsOf_eq (List.getElem_mem hk')]; exact (h.recs_ok (List.getElem_mem hk')).2
  · rw [h.tl_eq hk']
    by_cases h1 : k + 1 = G.length
    · exact .inr h1
    · rw [if_neg h1]; exact .inl rfl
theorem segs_eq (h : Lay D first many G t s) : segsOf first (hdsOf many G) (G.map (·.file)) = G.map fun g => ⟨first + g.file, g.hd⟩ := by
  unfold segsOf
  rw [List.map_map]
  refine List.map_congr_left fun g hg => ?_
  show (⟨first + g.file, hdAt (hdsOf many G) g.file⟩ : Seg) = _
  unfold hdAt
  rw [hdsOf_get (h.file g hg), find_file h.nodup hg]; rfl
theorem con (h : Lay D first many G t s) : s.Con := rdAll_con (PL.Con.nil 0 0) h.read
theorem same {D' : Dk} (h : Lay D first many G t s) (he : ∀ i, i < many → (D'.f (first + i)).b = (D.f (first + i)).b) : Lay D' first many G t s :=
  ⟨h.file, h.nodup, h.ser, h.ok, fun k hk => (he _ (h.file _ (List.getElem_mem hk))).trans (h.cont k hk), h.tail, fun i hi hg => by rw [he i hi]; exact h.junk i hi hg, h.read⟩
end Lay
section
variable {H H' : Heap} {S : PH} {R : List Asn} {d first many each : Nat} {D : Dk} {G : List Sg} {t : List UInt8} {s : PL}
theorem lay_rscan {fv : Sl} {vs : List Sl} (hs : Sat H S R) (hL : Lay D first many G t s) (hm : many < 20) (hfit : ∀ i, i < many → (D.f (first + i)).b.length ≤ 1048576) (hvl : vs.length = many) (hf : Rd S fv 1 (fV vs)) (hvs : ∀ i (h : i < vs.length), RdB S vs[i] (D.f (first + i)).b)
    {K : Value → Heap → Prop} (hK : ∀ (y : Sl) H' S', PH.le S S' → EL S' y s.es → Sat H' S' R → K (.tuple #[.agg (rfV s y G.length).toArray, .int .i64 0]) H') : CallsH Tryz.prog 51 #[.slice fv.a fv.l fv.c] H K := by
  have hlen : (G.map (·.file)).length = G.length := List.length_map ..
  rw [← hlen] at hK
  refine rscan_spec (vs := vs) (hds := hdsOf many G) (Ls := G.map (·.file)) (rsf := rsOf G) (tl := tlOf G t) (pl := s) hs hf (by rw [hdsOf_len]; exact hvl) (by omega) (fun i hi => ?_) (by rw [hvl]; exact hL.perm) hL.sorted (fun k hk h2 => ?_) hL.run hK
  · have h1 := hL.hok (i := i) (by omega)
    have h2 := hvs i hi
    have h3 := hfit i (by omega)
    cases hh : ((hdsOf many G)[i]?).getD none with
    | none => rw [hh] at h1; exact ⟨_, h2, h1⟩
    | some hd =>
      rw [hh] at h1
      obtain ⟨h4, rest, h5⟩ := h1
      rw [h5] at h2 h3
      rw [List.length_append] at h3
      exact ⟨h4, rest, h2, by omega⟩
  · obtain ⟨⟨g1, g2, g3, g4⟩, g5⟩ := hL.seg hk
    have h3 := hvs _ h2
    have h4 := hfit _ (by rw [← hvl]; exact h2)
    have h5 := RdB.len h3
    rw [g1] at h3
    exact ⟨⟨h3, g2, g3, by omega, g4⟩, g5, by omega⟩
theorem lay_open (hs : Sat H S (dsk d D :: R)) (hL : Lay D first many G t s) (hdn : D.down = false) (hm : 2 ≤ many) (hm2 : first + many ≤ 32) (hm3 : many < 20) (he : 64 ≤ each) (he2 : each ≤ 1048576)
    {K : Value → Heap → Prop} (hK : ∀ jb g H' S' X, PH.le S S' → g.pure = s → eok S' g.es → X = openedR (tidyK first (pnOf (G.map (·.file)) (rsOf G)) (fun n => (D.f (first + n)).b.length) (fun n => decide (n ∈ G.map (·.file))) many (D, ⟨d, first, many, each, g, G.map fun g => ⟨first + g.file, g.hd⟩, false⟩)) (decide (G.map (·.file) = [])) →
      Sat H' S' (jA jb X.2 :: dsk d X.1 :: R) → K (if X.2.broken = true then .tuple #[.pointer none, .int .i64 70] else .tuple #[.pointer (some ⟨jb, 0, none⟩), .int .i64 0]) H') :
    CallsH Tryz.prog 11 #[.pointer (some ⟨d, 0, none⟩), .int .i64 (first : Int), .int .i64 (many : Int), .int .i64 (each : Int)] H K := by
  have hse := hL.segs_eq
  rw [← hse] at hK
  exact open_specJ (hds := hdsOf many G) (Ls := G.map (·.file)) (rsf := rsOf G) (tl := tlOf G t) (pl := s) hs hdn hm hm2 hm3 he he2 (hdsOf_len many G) (fun i hi => hL.hok hi) hL.perm hL.sorted (fun k hk => hL.seg hk) hL.run hK
end
end Go.Sx.Tryz
namespace Go.Sx.Tryz
open Go Go.Sx Go.Proofs
set_option linter.unusedVariables false
section
variable {D : Dk} {i n : Nat} {x : List UInt8}
theorem tick_cases (D : Dk) (hd : D.down = false) : D.tick.f = D.f ∧ D.tick.armed = D.armed ∧ ((D.blown = false ∧ D.tick.down = false) ∨ (D.blown = true ∧ D.armed = true ∧ D.tick.down = true)) := by
  unfold Dk.tick Dk.blown
  cases ha : D.armed with
  | false => simp [ha, hd]
  | true =>
    simp only [if_true, Bool.true_and]
    refine ⟨by simp, by simp, ?_⟩
    cases h : D.fuse == 0 with
    | false => exact .inl ⟨rfl, rfl⟩
    | true => exact .inr ⟨rfl, by simp, rfl⟩
theorem app_cases (hd : D.down = false) (hf : (D.f i).b.length + x.length ≤ 1048576) :
    ∃ D', D'.f = (D.set i ⟨(D.f i).b ++ x, (D.f i).s⟩).f ∧ D'.armed = D.armed ∧ (D.app i x = (0, D') ∧ D'.down = false ∨ D.app i x = (70, D') ∧ D'.down = true ∧ D.armed = true) := by
  obtain ⟨h1, h2, h3⟩ := tick_cases (D.set i ⟨(D.f i).b ++ x, (D.f i).s⟩) hd
  have hb : (D.set i ⟨(D.f i).b ++ x, (D.f i).s⟩).blown = D.blown := rfl
  refine ⟨_, h1, h2, ?_⟩
  unfold Dk.app
  rw [if_neg (by rw [hd]; simp), if_neg (by omega)]
  rcases h3 with ⟨h4, h5⟩ | ⟨h4, h5, h6⟩
  · rw [hb] at h4
    rw [if_neg (by rw [h4]; simp)]; exact .inl ⟨rfl, h5⟩
  · rw [hb] at h4
    rw [if_pos h4]; exact .inr ⟨rfl, h6, h5⟩
theorem syn_cases (hd : D.down = false) : ∃ D', D'.armed = D.armed ∧ (D.syn i = (0, D') ∧ D'.down = false ∧ D'.f = (D.set i ⟨(D.f i).b, (D.f i).b.length⟩).f ∨ D.syn i = (70, D') ∧ D'.down = true ∧ D'.f = D.f ∧ D.armed = true) := by
  unfold Dk.syn
  rw [if_neg (by rw [hd]; simp)]
  rcases (tick_cases D hd).2.2 with ⟨h4, h5⟩ | ⟨h4, h5, h6⟩
  · obtain ⟨h1, h2, h3⟩ := tick_cases (D.set i ⟨(D.f i).b, (D.f i).b.length⟩) hd
    rw [if_neg (by rw [h4]; simp)]
    refine ⟨_, h2, .inl ⟨rfl, ?_, h1⟩⟩
    rcases h3 with ⟨_, h⟩ | ⟨h, _⟩
    · exact h
    · have hb : (D.set i ⟨(D.f i).b, (D.f i).b.length⟩).blown = D.blown := rfl
      rw [hb, h4] at h; cases h
  · rw [if_pos h4]
    exact ⟨_, (tick_cases D hd).2.1, .inr ⟨rfl, h6, (tick_cases D hd).1, h5⟩⟩
theorem drp_cases (hd : D.down = false) : ∃ D', D'.armed = D.armed ∧ (D.drp i = (0, D') ∧ D'.down = false ∧ D'.f = (D.set i ⟨[], 0⟩).f ∨ D.drp i = (70, D') ∧ D'.down = true ∧ D'.f = D.f ∧ D.armed = true) := by
  unfold Dk.drp
  rw [if_neg (by rw [hd]; simp)]
  rcases (tick_cases D hd).2.2 with ⟨h4, h5⟩ | ⟨h4, h5, h6⟩
  · obtain ⟨h1, h2, h3⟩ := tick_cases (D.set i ⟨[], 0⟩) hd
    rw [if_neg (by rw [h4]; simp)]
    refine ⟨_, h2, .inl ⟨rfl, ?_, h1⟩⟩
    rcases h3 with ⟨_, h⟩ | ⟨h, _⟩
    · exact h
    · have hb : (D.set i ⟨[], 0⟩).blown = D.blown := rfl
      rw [hb, h4] at h; cases h
  · rw [if_pos h4]
    exact ⟨_, (tick_cases D hd).2.1, .inr ⟨rfl, h6, (tick_cases D hd).1, h5⟩⟩
theorem cut_cases (hd : D.down = false) (hn : n ≤ (D.f i).b.length) : ∃ D', D'.armed = D.armed ∧ (D.cut i n = (0, D') ∧ D'.down = false ∧ D'.f = (D.set i ⟨(D.f i).b.take n, min n (D.f i).s⟩).f ∨ D.cut i n = (70, D') ∧ D'.down = true ∧ D'.f = D.f ∧ D.armed = true) := by
  unfold Dk.cut
  rw [if_neg (by rw [hd]; simp), if_neg (by omega)]
  rcases (tick_cases D hd).2.2 with ⟨h4, h5⟩ | ⟨h4, h5, h6⟩
  · obtain ⟨h1, h2, h3⟩ := tick_cases (D.set i ⟨(D.f i).b.take n, min n (D.f i).s⟩) hd
    rw [if_neg (by rw [h4]; simp)]
    refine ⟨_, h2, .inl ⟨rfl, ?_, h1⟩⟩
    rcases h3 with ⟨_, h⟩ | ⟨h, _⟩
    · exact h
    · have hb : (D.set i ⟨(D.f i).b.take n, min n (D.f i).s⟩).blown = D.blown := rfl
      rw [hb, h4] at h; cases h
  · rw [if_pos h4]
    exact ⟨_, (tick_cases D hd).2.1, .inr ⟨rfl, h6, (tick_cases D hd).1, h5⟩⟩
end
theorem set_same (D : Dk) (i : Nat) (x : Fl) : (D.set i x).f i = x := updF_same _ _ _
theorem set_ne (D : Dk) {i j : Nat} (x : Fl) (h : j ≠ i) : (D.set i x).f j = D.f j := updF_ne _ _ h
structure Crs (first many : Nat) (D D' : Dk) : Prop where
  left : ∀ i, i < many → ∃ n, (D.f (first + i)).s ≤ n ∧ n ≤ (D.f (first + i)).b.length ∧ D'.f (first + i) = ⟨(D.f (first + i)).b.take n, n⟩
  up : D'.down = false
  un : D'.armed = false
theorem crash_crs {first many : Nat} {D : Dk} (keep : List Int) (hm : first + many ≤ 32) (hs : ∀ i, i < many → (D.f (first + i)).s ≤ (D.f (first + i)).b.length) : Crs first many D (D.crash keep) := by
  refine ⟨fun i hi => ⟨crashN keep (first + i) (D.f (first + i)), ?_, ?_, ?_⟩, rfl, rfl⟩
  · unfold crashN; split <;> omega
  · have := hs i hi
    unfold crashN; split <;> omega
  · show (if first + i < 32 then _ else _) = _
    rw [if_pos (by omega)]; rfl
structure Mid (D : Dk) (J : Jn) (G : List Sg) (s : PL) : Prop where
  lay : Lay D J.first J.many G [] s
  rng : J.first + J.many ≤ 32 ∧ 2 ≤ J.many ∧ J.many < 20
  segs : J.segs = G.map fun g => ⟨J.first + g.file, g.hd⟩
  sound : J.broken = false
  up : D.down = false
  clean : ∀ i, i < J.many → (∀ g ∈ G, g.file ≠ i) → (D.f (J.first + i)).b = []
  sync : ∀ i, i < J.many → (D.f (J.first + i)).s = (D.f (J.first + i)).b.length
def Roomy (G : List Sg) (many : Nat) : Prop := G.length < many ∨ ∃ k, ∃ h : k + 1 < G.length, (G[k + 1].hd.anew = true ∨ G[k + 1].hd.i ≤ G[k].hd.i)
def Safe (G : List Sg) : Prop := ∀ j k, j ≤ k → ∀ h : k < G.length, G[k].hd.anew = true → (rdAll true ⟨0, 0, []⟩ (G.drop j)).isSome = true
def After (first many : Nat) (D : Dk) (P : PL → Prop) : Prop := D.down = true ∧ D.armed = true ∧ (∀ i, i < many → (D.f (first + i)).s ≤ (D.f (first + i)).b.length) ∧ ∀ D', Crs first many D D' → ∃ G t s, Lay D' first many G t s ∧ Roomy G many ∧ P s ∧ (∀ g ∈ G, g.hd.serial < 1000) ∧ Safe G
theorem After.mono {first many : Nat} {D : Dk} {P Q : PL → Prop} (h : After first many D P) (hpq : ∀ s, P s → Q s) : After first many D Q := by
  obtain ⟨h1, h2, h3, h4⟩ := h
  exact ⟨h1, h2, h3, fun D' hc => by obtain ⟨G, t, s, k1, k2, k3, k4⟩ := h4 D' hc; exact ⟨G, t, s, k1, k2, hpq s k3, k4⟩⟩
theorem Jn.note_zero (J : Jn) : J.note 0 = J := by
  obtain ⟨d, f, m, e, l, s, b⟩ := J
  simp [Jn.note]
theorem write_cases {J : Jn} {D : Dk} {f : Nat} {x : List UInt8} (hd : D.down = false) (hb : J.broken = false) (hf : (D.f f).b.length + x.length ≤ 1048576) :
    (∃ D', J.write D f x = (true, D', J) ∧ D'.down = false ∧ D'.armed = D.armed ∧ D'.f = (D.set f ⟨(D.f f).b ++ x, ((D.f f).b ++ x).length⟩).f) ∨
    (∃ D' J', J.write D f x = (false, D', J') ∧ D'.down = true ∧ D'.armed = true ∧ D'.f = (D.set f ⟨(D.f f).b ++ x, (D.f f).s⟩).f ∧ J' = { J with broken := true }) := by
  have hJ : J.note 70 = { J with broken := true } := by unfold Jn.note; simp
  obtain ⟨D1, h1, h2, h3⟩ := app_cases (i := f) (x := x) hd hf
  rcases h3 with ⟨h3, h4⟩ | ⟨h3, h4, h5⟩
  · obtain ⟨D2, k1, k2⟩ := syn_cases (i := f) h4
    have e : J.write D f x = ((D1.syn f).1 == 0, (D1.syn f).2, J.note (D1.syn f).1) := by
      unfold Jn.write
      simp only [h3, if_true, Jn.note_zero]
    have hf1 : D1.f f = ⟨(D.f f).b ++ x, (D.f f).s⟩ := by rw [h1]; exact set_same _ _ _
    rcases k2 with ⟨k2, k3, k4⟩ | ⟨k2, k3, k4, k5⟩
    · left
      refine ⟨D2, by rw [e, k2, Jn.note_zero]; rfl, k3, k1.trans h2, ?_⟩
      rw [k4, hf1]
      unfold Dk.set
      rw [h1]
      unfold Dk.set
      simp only [updF_upd]
    · right
      refine ⟨D2, J.note 70, by rw [e, k2]; rfl, k3, by rw [k1, k5], by rw [k4, h1], hJ⟩
  · right
    have e : J.write D f x = (false, D1, J.note 70) := by
      unfold Jn.write
      simp only [h3]; rfl
    exact ⟨D1, J.note 70, e, h4, by rw [h2, h5], h1, hJ⟩
theorem crs_write {first many f : Nat} {D D1 D' : Dk} {x : List UInt8} (hf : f < many) (hsync : ∀ i, i < many → (D.f (first + i)).s = (D.f (first + i)).b.length) (h1 : D1.f = (D.set (first + f) ⟨(D.f (first + f)).b ++ x, (D.f (first + f)).s⟩).f) (hc : Crs first many D1 D') :
    ∃ m, (D'.f (first + f)).b = (D.f (first + f)).b ++ x.take m ∧ ∀ i, i < many → i ≠ f → (D'.f (first + i)).b = (D.f (first + i)).b := by
  obtain ⟨n, k1, k2, k3⟩ := hc.left f hf
  have e : D1.f (first + f) = ⟨(D.f (first + f)).b ++ x, (D.f (first + f)).s⟩ := by rw [h1]; exact set_same _ _ _
  rw [e] at k1 k2 k3
  simp only at k1 k2 k3
  refine ⟨n - (D.f (first + f)).b.length, ?_, fun i hi hne => ?_⟩
  · rw [k3]
    simp only
    rw [hsync f hf] at k1
    rw [List.take_append, List.take_of_length_le k1]
  · obtain ⟨n, l1, l2, l3⟩ := hc.left i hi
    have e : D1.f (first + i) = D.f (first + i) := by rw [h1]; exact set_ne _ _ (by omega)
    rw [e] at l1 l2 l3
    rw [l3]
    rw [hsync i hi] at l1
    exact List.take_of_length_le l1
theorem crs_same {first many : Nat} {D D1 D' : Dk} (hsync : ∀ i, i < many → (D.f (first + i)).s = (D.f (first + i)).b.length) (h1 : D1.f = D.f) (hc : Crs first many D1 D') : ∀ i, i < many → (D'.f (first + i)).b = (D.f (first + i)).b := by
  intro i hi
  obtain ⟨n, l1, l2, l3⟩ := hc.left i hi
  rw [h1] at l1 l2 l3
  rw [l3]
  rw [hsync i hi] at l1
  exact List.take_of_length_le l1
theorem Lay.put {D D' : Dk} {first many f : Nat} {G : List Sg} {s s1 : PL} {h : Hd} (hL : Lay D first many G [] s) (hf : f < many) (hnew : ∀ g ∈ G, g.file ≠ f) (hser : ∀ g ∈ G, g.hd.serial < h.serial) (hok : h.ok) (hc : (D'.f (first + f)).b = parcelB 1 h.body) (ho : ∀ i, i < many → i ≠ f → (D'.f (first + i)).b = (D.f (first + i)).b) (hr : rdAll true ⟨0, 0, []⟩ (G ++ [⟨f, h, []⟩]) = some s1) :
    Lay D' first many (G ++ [⟨f, h, []⟩]) [] s1 := by
  refine ⟨fun g hg => ?_, ?_, ?_, fun g hg => ?_, fun k hk => ?_, Tail.nil, fun i hi hg => ?_, hr⟩
  · rcases List.mem_append.1 hg with h | h
    · exact hL.file g h
    · simp only [List.mem_singleton] at h; subst h; exact hf
  · rw [List.map_append, List.map_cons, List.map_nil]
    refine List.pairwise_append.2 ⟨hL.nodup, List.pairwise_singleton _ _, ?_⟩
    intro a ha b hb
    obtain ⟨g, hg, rfl⟩ := List.mem_map.1 ha
    simp only [List.mem_singleton] at hb
    subst hb; exact hnew g hg
  · refine List.pairwise_append.2 ⟨hL.ser, List.pairwise_singleton _ _, ?_⟩
    intro a ha b hb
    simp only [List.mem_singleton] at hb
    subst hb; exact hser a ha
  · rcases List.mem_append.1 hg with h | h
    · exact hL.ok g h
    · simp only [List.mem_singleton] at h
      subst h; exact ⟨hok, (fun r hr => by cases hr), by simp⟩
  · rw [List.length_append, List.length_singleton] at hk
    have ht : (if k + 1 = (G ++ [(⟨f, h, []⟩ : Sg)]).length then ([] : List UInt8) else []) = [] := by split <;> rfl
    rw [ht, List.append_nil]
    rcases Nat.lt_or_ge k G.length with h1 | h1
    · rw [List.getElem_append_left h1]
      have hg := List.getElem_mem h1
      rw [ho _ (hL.file _ hg) (hnew _ hg), hL.cont k h1]
      have : (if k + 1 = G.length then ([] : List UInt8) else []) = [] := by split <;> rfl
      rw [this, List.append_nil]
    · have : k = G.length := by omega
      subst this
      rw [List.getElem_append_right (Nat.le_refl _)]
      simp only [Nat.sub_self, List.getElem_cons_zero]
      rw [hc]
      show _ = pbs ([Rec.hd h].map Rec.par)
      rw [List.map_cons, List.map_nil, pbs_cons]
      show _ = parcelB 1 h.body ++ []
      rw [List.append_nil]
  · rw [ho i hi (by rintro rfl; exact hg _ (List.mem_append_right _ List.mem_cons_self) rfl)]
    exact hL.junk i hi fun g h => hg g (List.mem_append_left _ h)
theorem Lay.more {D D' : Dk} {first many : Nat} {G : List Sg} {L : Sg} {s s1 : PL} {new : List Rec} {t : List UInt8} (hL : Lay D first many (G ++ [L]) [] s) (hok : ∀ r ∈ new, r.ok) (hlen : L.rs.length + new.length < 29000) (ht : Tail t) (hc : (D'.f (first + L.file)).b = (D.f (first + L.file)).b ++ (pbs (new.map Rec.par) ++ t)) (ho : ∀ i, i < many → i ≠ L.file → (D'.f (first + i)).b = (D.f (first + i)).b) (hr : body L.hd.i s new = some s1) :
    Lay D' first many (G ++ [⟨L.file, L.hd, L.rs ++ new⟩]) t s1 := by
  have hmem : L ∈ G ++ [L] := List.mem_append_right _ List.mem_cons_self
  have hne : ∀ g ∈ G, g.file ≠ L.file := by
    have := hL.nodup
    rw [List.map_append, List.map_cons, List.map_nil] at this
    have h := (List.pairwise_append.1 this).2.2
    intro g hg
    exact h g.file (List.mem_map.2 ⟨g, hg, rfl⟩) L.file List.mem_cons_self
  have hlast := hL.cont G.length (by simp)
  rw [List.getElem_append_right (Nat.le_refl _)] at hlast
  simp only [Nat.sub_self, List.getElem_cons_zero, List.length_append, List.length_singleton, if_true, List.append_nil] at hlast
  refine ⟨fun g hg => ?_, ?_, ?_, fun g hg => ?_, fun k hk => ?_, ht, fun i hi hg => ?_, ?_⟩
  · rcases List.mem_append.1 hg with h | h
    · exact hL.file g (List.mem_append_left _ h)
    · simp only [List.mem_singleton] at h; subst h; exact hL.file L hmem
  · have := hL.nodup
    rw [List.map_append] at this ⊢
    exact this
  · have := hL.ser
    have h2 := List.pairwise_append.1 this
    refine List.pairwise_append.2 ⟨h2.1, List.pairwise_singleton _ _, ?_⟩
    intro a ha b hb
    simp only [List.mem_singleton] at hb
    subst hb; exact h2.2.2 a ha L List.mem_cons_self
  · rcases List.mem_append.1 hg with h | h
    · exact hL.ok g (List.mem_append_left _ h)
    · simp only [List.mem_singleton] at h
      obtain ⟨k1, k2, k3⟩ := hL.ok L hmem
      subst h
      refine ⟨k1, fun r hr => ?_, by show (L.rs ++ new).length < _; rw [List.length_append]; exact hlen⟩
      rcases List.mem_append.1 hr with h | h
      · exact k2 r h
      · exact hok r h
  · rw [List.length_append, List.length_singleton] at hk
    rcases Nat.lt_or_ge k G.length with h1 | h1
    · rw [List.getElem_append_left h1, if_neg (by simp; omega), List.append_nil]
      have hg := List.getElem_mem h1
      rw [ho _ (hL.file _ (List.mem_append_left _ hg)) (hne _ hg)]
      have := hL.cont k (by simp; omega)
      rw [List.getElem_append_left h1, if_neg (by simp; omega), List.append_nil] at this
      exact this
    · have : k = G.length := by omega
      subst this
      rw [List.getElem_append_right (Nat.le_refl _), if_pos (by simp)]
      simp only [Nat.sub_self, List.getElem_cons_zero]
      rw [hc, hlast]
      show _ = pbs ((Rec.hd L.hd :: (L.rs ++ new)).map Rec.par) ++ t
      have e : (Rec.hd L.hd :: (L.rs ++ new)) = L.recs ++ new := rfl
      rw [e, List.map_append, pbs_append, List.append_assoc]
  · rw [ho i hi (by rintro rfl; exact hg _ (List.mem_append_right _ List.mem_cons_self) rfl)]
    refine hL.junk i hi fun g h => ?_
    rcases List.mem_append.1 h with h | h
    · exact hg g (List.mem_append_left _ h)
    · simp only [List.mem_singleton] at h
      subst h
      exact hg ⟨g.file, g.hd, g.rs ++ new⟩ (List.mem_append_right _ List.mem_cons_self)
  · have h := rd_more (new := new) (f := L.file) (h := L.hd) (rs := L.rs) (G := G) hL.read
    rw [h]; exact hr
theorem Lay.erase {D D' : Dk} {first many k : Nat} {G : List Sg} {s s1 : PL} (hL : Lay D first many G [] s) (hk : k < G.length) (hc : (D'.f (first + G[k].file)).b = []) (ho : ∀ i, i < many → i ≠ G[k].file → (D'.f (first + i)).b = (D.f (first + i)).b) (hr : rdAll true ⟨0, 0, []⟩ (G.eraseIdx k) = some s1) :
    Lay D' first many (G.eraseIdx k) [] s1 := by
  have hmem : ∀ g ∈ G.eraseIdx k, g ∈ G := fun g h => List.mem_of_mem_eraseIdx h
  have hnd : G.Pairwise fun a b => a.file ≠ b.file := List.pairwise_map.1 hL.nodup
  have hne : ∀ g ∈ G.eraseIdx k, g.file ≠ G[k].file := by
    rw [List.pairwise_iff_getElem] at hnd
    intro g hg
    rw [List.mem_eraseIdx_iff_getElem] at hg
    obtain ⟨j, hj, hjk, rfl⟩ := hg
    rcases Nat.lt_or_gt_of_ne hjk with h | h
    · exact hnd j k hj hk h
    · exact fun e => hnd k j hk hj h e.symm
  refine ⟨fun g hg => hL.file g (hmem g hg), List.pairwise_map.2 (hnd.sublist (List.eraseIdx_sublist _ _)), hL.ser.sublist (List.eraseIdx_sublist _ _), fun g hg => hL.ok g (hmem g hg), fun j hj => ?_, Tail.nil, fun i hi hg => ?_, hr⟩
  · have ht : (if j + 1 = (G.eraseIdx k).length then ([] : List UInt8) else []) = [] := by split <;> rfl
    rw [ht, List.append_nil]
    have hm := List.getElem_mem hj
    rw [ho _ (hL.file _ (hmem _ hm)) (hne _ hm)]
    obtain ⟨i, hi, he⟩ := List.getElem_of_mem (hmem _ hm)
    rw [← he]
    have := hL.cont i hi
    have ht2 : (if i + 1 = G.length then ([] : List UInt8) else []) = [] := by split <;> rfl
    rw [ht2, List.append_nil] at this; exact this
  · by_cases h : i = G[k].file
    · subst h; rw [hc]; exact Tail.nil
    · rw [ho i hi h]
      refine hL.junk i hi fun g hgm e => ?_
      obtain ⟨j, hj, rfl⟩ := List.getElem_of_mem hgm
      by_cases hjk : j = k
      · subst hjk; exact h e.symm
      · exact hg _ (List.mem_eraseIdx_iff_getElem.2 ⟨j, hj, hjk, rfl⟩) e
end Go.Sx.Tryz

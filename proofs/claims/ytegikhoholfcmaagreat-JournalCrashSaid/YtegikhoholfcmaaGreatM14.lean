/-
  What is proved: JournalCrash returns true for every input. Its condition: none. From the walk (crashes_spec): its arguments opened, the row closed.
-/
import Derived.Test.YtegikhoholfcmaaGreatM13
namespace Go.Sx.Tryz
open Go Go.Sx Go.Proofs
set_option linter.unusedVariables false
set_option maxRecDepth 20000
section
variable {H H' : Heap} {S : PH} {R : List Asn}
theorem el49 : ElemOk Tryz.prog 49 38 4 64 := ElemOk.mk' (z := .agg #[.int .u64 0, .int .u64 0, .slice none 0 0, .slice none 0 0]) Tryz.underlying49 (by kernel_rfl) rfl (by decide)
def stsV (l : List (PL × Sl)) : List Value := l.flatMap fun p => stV p.1 p.2
theorem stV_len (p : PL × Sl) : (stV p.1 p.2).length = 4 := rfl
theorem stsV_len (l : List (PL × Sl)) : (stsV l).length = l.length * 4 := flat_len (f := fun p : PL × Sl => stV p.1 p.2) stV_len l
theorem stsV_append (a b : List (PL × Sl)) : stsV (a ++ b) = stsV a ++ stsV b := by unfold stsV; exact List.flatMap_append
theorem stV_one (p : PL × Sl) : ∀ u ∈ stV p.1 p.2, u.oneCell' = true := by
  intro u hu
  simp only [stV, List.mem_cons, List.not_mem_nil, or_false] at hu
  rcases hu with rfl | rfl | rfl | rfl <;> rfl
theorem appS1 {v : Sl} {us : List (PL × Sl)} {p : PL × Sl} {b : Nat} (hs : Sat H S (lst b 38 (stV p.1 p.2) :: own 38 4 v (stsV us) :: R)) (hb : us.length < 100000)
    {K : Sl → Heap → Prop} (hk : ∀ v' H', Sat H' S (own 38 4 v' (stsV (us ++ [p])) :: R) → K v' H') :
    RunK Tryz.prog .sl (Builtin.append_ #[49, 49] 49 #[.slice v.a v.l v.c, .slice (some ⟨b, 0, none⟩) 1 1]) H K := by
  have hl := (own.len hs.swap).1
  rw [stsV_len] at hl
  refine append_one el49 hs rfl (stV_one p) (by omega) (by unfold maxLen; omega) fun v' h1 _ hs1 => hk v' h1 ?_
  rw [stsV_append]
  have e : stsV [p] = stV p.1 p.2 := by simp [stsV]
  rw [e]; exact hs1
theorem appS2 {v : Sl} {us : List (PL × Sl)} {p q : PL × Sl} {b : Nat} (hs : Sat H S (lst b 38 (stV p.1 p.2 ++ stV q.1 q.2) :: own 38 4 v (stsV us) :: R)) (hb : us.length < 100000)
    {K : Sl → Heap → Prop} (hk : ∀ v' H', Sat H' S (own 38 4 v' (stsV (us ++ [p, q])) :: R) → K v' H') :
    RunK Tryz.prog .sl (Builtin.append_ #[49, 49] 49 #[.slice v.a v.l v.c, .slice (some ⟨b, 0, none⟩) 2 2]) H K := by
  have hl := (own.len hs.swap).1
  rw [stsV_len] at hl
  refine append_own el49 hs.swap (m := 2) (news := stV p.1 p.2 ++ stV q.1 q.2) rfl (.inr ⟨b, 0, rfl, hs.cells 0 rfl⟩) (fun u hu => ?_) (by omega) (by unfold maxLen; omega) fun v' h1 _ hs1 => hk v' h1 ?_
  · rcases List.mem_append.1 hu with h | h
    · exact stV_one p u h
    · exact stV_one q u h
  · rw [stsV_append]
    have e : stsV [p, q] = stV p.1 p.2 ++ stV q.1 q.2 := by simp [stsV]
    rw [e]; exact hs1.swap.drop
theorem sts_at {v : Sl} {us : List (PL × Sl)} (h : Rd S v 4 (stsV us)) {L : List Asn} (hs : Sat H S L) {k : Nat} (hk : k < us.length) : ∃ g o, v.a = some ⟨g, o, none⟩ ∧ CellsAt H g (o + k * 4) (stV us[k].1 us[k].2) := by
  have hl := h.1
  rw [stsV_len] at hl
  obtain ⟨g, o, ga, gc⟩ := Rd.at h hs (by omega)
  refine ⟨g, o, ga, ?_⟩
  have := cells_sub gc (k * 4) 4
  unfold stsV at this
  rw [flat_at (f := fun p : PL × Sl => stV p.1 p.2) stV_len hk] at this
  exact this
def MayOk (S : PH) (may : List (PL × Sl)) : Prop := ∀ p ∈ may, EL S p.2 p.1.es ∧ p.1.es.length ≤ 400
theorem MayOk.mono {S S' : PH} {may : List (PL × Sl)} (h : MayOk S may) (hs : PH.le S S') : MayOk S' may := fun p hp => ⟨(h p hp).1.mono hs, (h p hp).2⟩
def FinD (many : Nat) (D : Dk) (may : List (PL × Sl)) : Prop := ∀ D', Crs 0 many D D' → ∃ G t s', Lay D' 0 many G t s' ∧ Roomy G many ∧ (∃ p ∈ may, p.1 = s') ∧ (∀ g ∈ G, g.hd.serial < 1000) ∧ Safe G
theorem raised_len (s : PL) (fi ft most : Nat) : (s.raised fi ft most).1.es.length ≤ s.es.length := by
  unfold PL.raised
  split
  · exact Nat.le_refl _
  · split
    · simp
    · exact Nat.le_refl _
theorem raised_self (s : PL) (most : Nat) : s.raised s.fi s.ft most = (s, true) := by rw [PL.raised, if_pos ⟨rfl, rfl⟩]
theorem Lay.congr {D D' : Dk} {first many : Nat} {G : List Sg} {t : List UInt8} {s : PL} (hL : Lay D first many G t s) (h : ∀ i, i < many → (D'.f (first + i)).b = (D.f (first + i)).b) : Lay D' first many G t s :=
  ⟨hL.file, hL.nodup, hL.ser, hL.ok, fun k hk => by rw [h _ (hL.file _ (List.getElem_mem hk))]; exact hL.cont k hk, hL.tail, fun i hi hg => by rw [h i hi]; exact hL.junk i hi hg, hL.read⟩
theorem JInv.fin {d many each n : Nat} {D : Dk} {J : Jn} {G : List Sg} {s : PL} {y : Sl} (h : JInv S d many each D J G s n) (hn : n < 1000) : FinD many D [(s, y)] := by
  intro D' hc
  obtain ⟨h1, h2, h3, h4⟩ := h.fld
  have hM := h.rest.mid
  have hL := hM.lay
  have hsync := hM.sync
  rw [h2, h3] at hL
  rw [h2, h3] at hsync
  refine ⟨G, [], s, hL.congr (crs_same hsync rfl hc), .inl (by rw [← h3]; exact h.rest.room), ⟨_, List.mem_singleton.2 rfl, rfl⟩, fun g hg => ?_, h.rest.tame.safe hL.read⟩
  have := h.bnd.sr g hg
  omega
theorem JInv.arm {d many each n k : Nat} {D : Dk} {J : Jn} {G : List Sg} {s : PL} (h : JInv S d many each D J G s n) : JInv S d many each { D with armed := true, fuse := k } J G s n := by
  have hM := h.rest.mid
  have hL := hM.lay
  have hB := h.bnd
  exact ⟨⟨⟨⟨hL.file, hL.nodup, hL.ser, hL.ok, hL.cont, hL.tail, hL.junk, hL.read⟩, hM.rng, hM.segs, hM.sound, hM.up, hM.clean, hM.sync⟩, h.rest.ne, h.rest.room, h.rest.mono, h.rest.tame⟩,
    ⟨hB.fl, hB.sr, hB.rl, hB.el, hB.li, hB.ft, hB.et⟩, h.log, h.ents, h.fld⟩
theorem u64_succ {n : Nat} (h : n < 1000000) : IntKind.u64.wrap ((n : Int) + 1) = ((n + 1 : Nat) : Int) := by rw [u64_in (by omega) (by omega)]; rfl
end
end Go.Sx.Tryz
namespace Go.Sx.Tryz
open Go Go.Sx Go.Proofs
set_option linter.unusedVariables false
set_option maxRecDepth 20000
section
variable {H H' : Heap} {S : PH} {R : List Asn}
set_option maxHeartbeats 1000000 in
theorem crashes_spec {m e : Int} {fuse : Nat} {v kv : Sl} {ops : List Op1} {keep : List Int} (hs : Sat H S R) (hv : OL S v ops) (hvl : v.l ≤ 9223372036854775807) (hf : fuse < 256) (hk : Rd S kv 1 (inV keep))
    {K : Value → Heap → Prop} (hK : ∀ H' S', PH.le S S' → Sat H' S' R → K (.bool true) H') :
    CallsH Tryz.prog 4 #[.int .i64 m, .int .i64 e, .slice v.a v.l v.c, .agg #[.int .u8 (fuse : Int), .slice kv.a kv.l kv.c]] H K := by
  refine vc4 m e v (fuse : Int) kv H K ?_
  have hkvl : kv.l = keep.length := by have := hk.1; simp [inV] at this; omega
  intro b1 h1 f1
  have hs1 : Sat h1 S (lst b1 47 [.int .u8 (fuse : Int), .slice kv.a kv.l kv.c] :: R) := hs.fresh f1
  refine ⟨fun t h => Sat h S (lst b1 47 [.int .u8 (fuse : Int), .slice kv.a kv.l kv.c] :: R) ∧ (t = false → (ops.length ≤ 60 ∧ ∀ o ∈ ops, o.b.length ≤ 600) ∧ keep.length ≤ 40), ?_,
    few_spec hs1 hv hvl fun b h2 hb hs2 => ⟨b, rfl, CondP.of (fun _ => ⟨hs2, fun h => by cases h⟩) (fun hc => ⟨kv, hs2.cell 1 rfl, hs2, fun h => ⟨hb (by simpa using hc), by
      have := of_decide_eq_false h; omega⟩⟩)⟩⟩
  clear hs1
  rintro t h2 ⟨hs2, hJ⟩ _
  refine CondP.of (fun _ => lives_spec hs2.drop fun h3 S1 hS1 hs3 => ⟨_, rfl, hK h3 S1 hS1 hs3⟩) (fun hc => ?_)
  obtain ⟨⟨hol, hob⟩, hkl⟩ := hJ hc
  clear hJ
  obtain ⟨em, hm⟩ := modN (k := 6) (by omega) (by omega) 2 (by omega) m
  obtain ⟨ee, he⟩ := modN (k := 1000) (by omega) (by omega) 64 (by omega) e
  generalize hmany : 2 + (m % 18446744073709551616).toNat % 6 = many at *
  generalize heach : 64 + (e % 18446744073709551616).toNat % 1000 = each at *
  have em : IntKind.i64.wrap (2 + IntKind.i64.wrap (Int.tmod (IntKind.u64.wrap m) 6)) = (many : Int) := em
  have ee : IntKind.i64.wrap (64 + IntKind.i64.wrap (Int.tmod (IntKind.u64.wrap e) 1000)) = (each : Int) := ee
  rw [em, ee]
  have hl := OL.len hv
  refine ⟨by decide, by decide, new_spec hs2 fun d h3 hs3 => ⟨_, rfl, ?_⟩⟩
  refine jnew_spec (many := many) (each := each) hs3 (by omega) (by omega) fun jb J D G h4 S1 hS1 hI ha hs4 => ⟨_, _, rfl, CondP.of (fun hc => by simp at hc) fun _ => ?_⟩
  refine ⟨_, (hs4.pick 2 rfl).cell 0 rfl, by decide, ?_⟩
  have ef : IntKind.i64.wrap (Int.tmod (fuse : Int) 64) = ((fuse % 64 : Nat) : Int) := by
    rw [show Int.tmod (fuse : Int) 64 = ((fuse % 64 : Nat) : Int) from rfl, i64_nat (by omega)]
  rw [ef]
  refine arm_spec (n := fuse % 64) (by omega) hs4.swap fun h5 hs5 => ⟨rfl, ?_⟩
  have hI := hI.arm (k := fuse % 64)
  generalize hDa : ({ D with armed := true, fuse := fuse % 64 } : Dk) = Da at *
  have hs5 := hs5.swap
  intro b2 h6 f6
  have hs6 := hs5.fresh f6
  refine Sat.store (T := 38) (l := zsV) hs6 (by simp [zsV]) fun h7 hs7 => ?_
  have hs7 : Sat h7 S1 (lst b2 38 (stV ⟨0, 0, []⟩ ⟨none, 0, 0⟩) :: jA jb J :: dsk d Da :: lst b1 47 [.int .u8 (fuse : Int), .slice kv.a kv.l kv.c] :: R) := hs7
  clear hs6 hs5 hs4 hs3 hs2
  refine ⟨fun x h => ∃ (S' : PH) (jb : Nat) (J : Jn) (D : Dk) (may : List (PL × Sl)) (s : PL) (y : Sl), PH.le S S' ∧ EL S' y s.es ∧ s.es.length ≤ 400 ∧ s.last.1 ≤ 10000 ∧ MayOk S' may ∧ may.length ≤ 1000 ∧
      (may = [] → FinD many D [(s, y)]) ∧ (may ≠ [] → FinD many D may) ∧ Sat h S' (own 38 4 x (stsV may) :: lst b2 38 (stV s y) :: jA jb J :: dsk d D :: lst b1 47 [.int .u8 (fuse : Int), .slice kv.a kv.l kv.c] :: R), ?_, ?_⟩
  ·
    clear hI hs7 hDa
    rintro x h8 ⟨S2, jb, J, D, may, s, y, hS2, hy, hsl, hsi, hmo, hml, hF0, hF1, hs8⟩ _
    refine ⟨fun x h => ∃ (may : List (PL × Sl)), MayOk S2 may ∧ may.length ≤ 1000 ∧ FinD many D may ∧ Sat h S2 (own 38 4 x (stsV may) :: lst b2 38 (stV s y) :: jA jb J :: dsk d D :: lst b1 47 [.int .u8 (fuse : Int), .slice kv.a kv.l kv.c] :: R), ?_, ?_⟩
    · clear hs8 hF0 hF1 hmo hml
      rintro x h9 ⟨may, hmo, hml, hF, hs9⟩ _
      refine ⟨kv, (hs9.pick 4 rfl).cell 1 rfl, ?_⟩
      obtain ⟨S3, q1, q2, hs10⟩ := own.fixd hs9
      have hs10 : Sat h9 S3 (dsk d D :: lst b2 38 (stV s y) :: jA jb J :: lst b1 47 [.int .u8 (fuse : Int), .slice kv.a kv.l kv.c] :: R) := hs10.pick 2 rfl
      have hsy := dsk_sy hs10
      refine crash_spec hs10 (hk.mono (hS2.trans q1)) (by omega) (fun i hi => hsy i hi) fun h10 hs11 => ⟨rfl, ?_⟩
      have hcr := crash_crs (first := 0) (many := many) (D := D) keep (by omega) (fun i hi => hsy _ (by omega))
      obtain ⟨G, tl, s', hL, hR, ⟨p0, hp0, hps⟩, hser, hSf⟩ := hF _ hcr
      have hsy2 := dsk_sy hs11
      refine jopen_spec (first := 0) hs11 hL ⟨by omega, by omega, by omega⟩ (by omega) rfl rfl (fun i hi => hsy2 _ (by omega)) hR hSf hser fun jb2 J2 D2 G2 h11 S4 hS4 hfl hX hlog hge ha2 hgs hbd hs12 => ⟨_, _, rfl, CondP.of (fun hc => by simp at hc) fun _ => ?_⟩
      obtain ⟨j0, hj0, hj1⟩ := List.getElem_of_mem hp0
      subst hj1
      have hmo := hmo.mono (q1.trans hS4)
      have hxl : x.l = may.length := by have := q2.1; rw [stsV_len] at this; omega
      have hs'l : s'.es.length ≤ 400 := by rw [← hps]; exact (hmo _ hp0).2
      obtain ⟨g1, g2⟩ := log_fi hlog
      refine ⟨fun n h => ∃ (i : Nat) (SS : PH), n = i ∧ i ≤ j0 ∧ PH.le S4 SS ∧ Sat h SS (jA jb2 J2 :: dsk d D2 :: lst b2 38 (stV s y) :: jA jb J :: lst b1 47 [.int .u8 (fuse : Int), .slice kv.a kv.l kv.c] :: R), fun n _ => may.length - n.toNat, ⟨0, S4, rfl, Nat.zero_le _, PH.le.refl _, hs12⟩, ?_⟩
      clear hs12 hs11 hs10 hs9
      rintro n h12 ⟨i, S5, rfl, hij, hS5, hs13⟩ _
      refine CondP.of (fun hc => ?_) (fun hc => by simp at hc; omega)
      have hi : i < may.length := by omega
      obtain ⟨g, o, ga, gc⟩ := sts_at (q2.mono (hS4.trans hS5)) hs13 hi
      obtain ⟨hel, hel2⟩ := hmo _ (List.getElem_mem hi)
      have hmi : i = j0 → may[i].1 = s' := by rintro rfl; exact hps
      generalize may[i] = p at *
      refine ⟨⟨by omega, by omega⟩, NilP.of ga ⟨_, _, ⟨none, 0, 0⟩, p.2, gc, ?_⟩⟩
      intro b4 h13 f13
      have hs14 := hs13.fresh f13
      refine Sat.store (T := 38) (l := zsV) hs14 (by simp [zsV]) fun h14 hs15 => ?_
      have hs15 : Sat h14 S5 (lst b4 38 (stV p.1 p.2) :: jA jb2 J2 :: dsk d D2 :: lst b2 38 (stV s y) :: jA jb J :: lst b1 47 [.int .u8 (fuse : Int), .slice kv.a kv.l kv.c] :: R) := hs15
      refine ⟨_, _, ⟨none, 0, 0⟩, p.2, hs15.cells 0 rfl, _, _, ⟨none, 0, 0⟩, y, (hs15.pick 3 rfl).cells 0 rfl, ?_⟩
      have hy5 := hy.mono ((q1.trans hS4).trans hS5)
      have hel5 := hel.mono hS5
      have hrl := raised_len p.1 s'.fi s'.ft (s.last.1 + 1)
      have hrs : i = j0 → p.1.raised s'.fi s'.ft (s.last.1 + 1) = (s', true) := fun h => by rw [hmi h]; exact raised_self _ _
      have fin : ∀ (h : Heap) (SS : PH) (b5 : Nat) (z : Sl) (I : Int → Heap → Prop) (mu : Int → Heap → Nat), PH.le S5 SS → EL SS z (p.1.raised s'.fi s'.ft (s.last.1 + 1)).1.es →
          (∀ h', (∃ (i' : Nat) (SS : PH), IntKind.i64.wrap ((i : Int) + 1) = i' ∧ i' ≤ j0 ∧ PH.le S4 SS ∧ Sat h' SS (jA jb2 J2 :: dsk d D2 :: lst b2 38 (stV s y) :: jA jb J :: lst b1 47 [.int .u8 (fuse : Int), .slice kv.a kv.l kv.c] :: R)) → I (IntKind.i64.wrap ((i : Int) + 1)) h' ∧ mu (IntKind.i64.wrap ((i : Int) + 1)) h' < mu i h12) →
          Sat h SS (lst b5 38 (stV (p.1.raised s'.fi s'.ft (s.last.1 + 1)).1 z) :: jA jb2 J2 :: dsk d D2 :: lst b2 38 (stV s y) :: jA jb J :: lst b1 47 [.int .u8 (fuse : Int), .slice kv.a kv.l kv.c] :: R) →
          CondP (p.1.raised s'.fi s'.ft (s.last.1 + 1)).2 (
            ∃ n15 : Int, ∃ n16 : Int, ∃ x13 : Sl, ∃ x14 : Sl, CellsAt h b5 0 [.int .u64 n15, .int .u64 n16, .slice x13.a x13.l x13.c, .slice x14.a x14.l x14.c] ∧
            CallsH Tryz.prog 13 #[.pointer (some ⟨d, 0, none⟩), .pointer (some ⟨jb2, 0, none⟩), .agg #[.int .u64 n15, .int .u64 n16, .slice x13.a x13.l x13.c, .slice x14.a x14.l x14.c], .int .i64 (many : Int)] h (fun r9 h20 => ∃ t4 : Bool, r9 = .bool t4 ∧
              CondP t4 (CallsH Tryz.prog 9 #[] h20 (fun r10 h21 => ∃ t5 : Bool, r10 = .bool t5 ∧ K (.bool t5) h21)) (I (IntKind.i64.wrap ((i : Int) + 1)) h20 ∧ mu (IntKind.i64.wrap ((i : Int) + 1)) h20 < mu i h12)))
            (I (IntKind.i64.wrap ((i : Int) + 1)) h ∧ mu (IntKind.i64.wrap ((i : Int) + 1)) h < mu i h12) := by
        intro h SS b5 z I mu hSS hz hI hh
        have next : ∀ (h' : Heap) (SS : PH), i ≠ j0 → PH.le S4 SS → Sat h' SS (jA jb2 J2 :: dsk d D2 :: lst b2 38 (stV s y) :: jA jb J :: lst b1 47 [.int .u8 (fuse : Int), .slice kv.a kv.l kv.c] :: R) → I (IntKind.i64.wrap ((i : Int) + 1)) h' ∧ mu (IntKind.i64.wrap ((i : Int) + 1)) h' < mu i h12 :=
          fun h' SS hne hle hh' => hI h' ⟨i + 1, SS, i64_succ (by omega), by omega, hle, hh'⟩
        refine CondP.of (fun _ => ?_) (fun hc => next h SS (fun hij => by rw [hrs hij] at hc; cases hc) (hS5.trans hSS) hh.drop)
        refine ⟨_, _, ⟨none, 0, 0⟩, z, hh.cells 0 rfl, ?_⟩
        have hmJ : J2.many = many := hfl.2.2.1
        have hlike := like_spec (x := (p.1.raised s'.fi s'.ft (s.last.1 + 1)).1) (y := z) (n := 400) hh.drop hX (dsk_len (hh.drop.sel [1])) hlog (hge.mono (hS5.trans hSS)) ⟨hs'l, by omega⟩ hz (by omega) hfl.2.1
          (K := fun r9 h20 => ∃ t4 : Bool, r9 = .bool t4 ∧
              CondP t4 (CallsH Tryz.prog 9 #[] h20 (fun r10 h21 => ∃ t5 : Bool, r10 = .bool t5 ∧ K (.bool t5) h21)) (I (IntKind.i64.wrap ((i : Int) + 1)) h20 ∧ mu (IntKind.i64.wrap ((i : Int) + 1)) h20 < mu i h12))
          (fun b h20 S6 hS6 hb hs20 => ⟨b, rfl, CondP.of (fun _ => ?_) (fun hc => next h20 S6 (fun hij => by rw [hb (by rw [hrs hij])] at hc; cases hc) ((hS5.trans hSS).trans hS6) hs20)⟩)
        · rw [hmJ] at hlike; exact hlike
        · exact lives_spec (hs20.drop.drop.drop.drop.drop) fun h2 S1 hS1 hs2 => ⟨_, rfl, hK h2 S1 (hS2.trans (q1.trans (hS4.trans (hS5.trans (hSS.trans (hS6.trans hS1)))))) hs2⟩
      have hstep : ∀ (h' : Heap), (∃ (i' : Nat) (SS : PH), IntKind.i64.wrap ((i : Int) + 1) = i' ∧ i' ≤ j0 ∧ PH.le S4 SS ∧ Sat h' SS (jA jb2 J2 :: dsk d D2 :: lst b2 38 (stV s y) :: jA jb J :: lst b1 47 [.int .u8 (fuse : Int), .slice kv.a kv.l kv.c] :: R)) →
          (∃ (i' : Nat) (SS : PH), IntKind.i64.wrap ((i : Int) + 1) = i' ∧ i' ≤ j0 ∧ PH.le S4 SS ∧ Sat h' SS (jA jb2 J2 :: dsk d D2 :: lst b2 38 (stV s y) :: jA jb J :: lst b1 47 [.int .u8 (fuse : Int), .slice kv.a kv.l kv.c] :: R)) ∧ may.length - (IntKind.i64.wrap ((i : Int) + 1)).toNat < may.length - (i : Int).toNat := by
        rintro h' ⟨i', SS, e1, e2, e3, e4⟩
        refine ⟨⟨i', SS, e1, e2, e3, e4⟩, ?_⟩
        rw [i64_succ (by omega)]
        simp only [Int.toNat_natCast]
        omega
      have eix : IntKind.u64.wrap (((s.last.1 : Nat) : Int) + 1) = ((s.last.1 + 1 : Nat) : Int) := u64_succ (by omega)
      refine ⟨?_, ?_⟩
      · refine slast_spec hs15 hy5 (by omega) fun z1 h15 hs16 => ⟨_, _, z1, rfl, hs16.cells 0 rfl, ?_⟩
        rw [eix]
        refine ⟨?_, ?_⟩
        · refine raised_spec (hs16.swap) hel5 (by omega) fun z2 h16 S6 hS6 hz2 hs17 => ?_
          rw [g1, g2] at hz2 ⊢
          refine ⟨_, _, ⟨none, 0, 0⟩, z2, _, rfl, ?_⟩
          intro b5 h17 f17
          have hs18 := hs17.fresh f17
          refine Sat.store (T := 38) (l := zsV) hs18 (by simp [zsV]) fun h18 hs19 => ?_
          have hs19 : Sat h18 S6 (lst b5 38 (stV (p.1.raised s'.fi s'.ft (s.last.1 + 1)).1 z2) :: jA jb2 J2 :: lst b4 38 (stV p.1 p.2) :: dsk d D2 :: lst b2 38 (stV s y) :: jA jb J :: lst b1 47 [.int .u8 (fuse : Int), .slice kv.a kv.l kv.c] :: R) := hs19
          exact fin h18 S6 b5 z2 (fun n h => ∃ (i' : Nat) (SS : PH), n = i' ∧ i' ≤ j0 ∧ PH.le S4 SS ∧ Sat h SS (jA jb2 J2 :: dsk d D2 :: lst b2 38 (stV s y) :: jA jb J :: lst b1 47 [.int .u8 (fuse : Int), .slice kv.a kv.l kv.c] :: R)) (fun n _ => may.length - n.toNat) hS6 hz2 hstep (hs19.del 2)
        · intro b6 h16 f16
          have hs17 := hs16.fresh f16
          have hs17 : Sat h16 S5 (lst b6 38 zsV :: lst b4 38 (stV p.1 p.2) :: jA jb2 J2 :: dsk d D2 :: lst b2 38 (stV s y) :: jA jb J :: lst b1 47 [.int .u8 (fuse : Int), .slice kv.a kv.l kv.c] :: R) := hs17
          refine ⟨hs17.swap.cells 0 rfl, ?_⟩
          refine raised_spec (hs17.pick 2 rfl) hel5 (by omega) fun z2 h17 S6 hS6 hz2 hs18 => ?_
          rw [g1, g2] at hz2 ⊢
          refine ⟨_, _, ⟨none, 0, 0⟩, z2, _, rfl, ?_⟩
          refine hs18.swap.store (by simp [zsV]) fun h18 hs19 => ?_
          have hs19 : Sat h18 S6 (lst b6 38 (stV (p.1.raised s'.fi s'.ft (s.last.1 + 1)).1 z2) :: jA jb2 J2 :: lst b4 38 (stV p.1 p.2) :: dsk d D2 :: lst b2 38 (stV s y) :: jA jb J :: lst b1 47 [.int .u8 (fuse : Int), .slice kv.a kv.l kv.c] :: R) := hs19
          exact fin h18 S6 b6 z2 (fun n h => ∃ (i' : Nat) (SS : PH), n = i' ∧ i' ≤ j0 ∧ PH.le S4 SS ∧ Sat h SS (jA jb2 J2 :: dsk d D2 :: lst b2 38 (stV s y) :: jA jb J :: lst b1 47 [.int .u8 (fuse : Int), .slice kv.a kv.l kv.c] :: R)) (fun n _ => may.length - n.toNat) hS6 hz2 hstep (hs19.del 2)
      · intro b7 h15 f15
        have hs16 := hs15.fresh f15
        have hs16 : Sat h15 S5 (lst b7 38 zsV :: lst b4 38 (stV p.1 p.2) :: jA jb2 J2 :: dsk d D2 :: lst b2 38 (stV s y) :: jA jb J :: lst b1 47 [.int .u8 (fuse : Int), .slice kv.a kv.l kv.c] :: R) := hs16
        refine ⟨(hs16.pick 4 rfl).cells 0 rfl, hs16.swap.cells 0 rfl, ?_⟩
        refine slast_spec hs16 hy5 (by omega) fun z1 h16 hs17 => ⟨_, _, z1, rfl, hs17.swap.cells 0 rfl, ?_⟩
        rw [eix]
        refine raised_spec (hs17.pick 2 rfl) hel5 (by omega) fun z2 h17 S6 hS6 hz2 hs18 => ?_
        rw [g1, g2] at hz2 ⊢
        refine ⟨_, _, ⟨none, 0, 0⟩, z2, _, rfl, ?_⟩
        refine hs18.swap.store (by simp [zsV]) fun h18 hs19 => ?_
        have hs19 : Sat h18 S6 (lst b7 38 (stV (p.1.raised s'.fi s'.ft (s.last.1 + 1)).1 z2) :: jA jb2 J2 :: lst b4 38 (stV p.1 p.2) :: dsk d D2 :: lst b2 38 (stV s y) :: jA jb J :: lst b1 47 [.int .u8 (fuse : Int), .slice kv.a kv.l kv.c] :: R) := hs19
        exact fin h18 S6 b7 z2 (fun n h => ∃ (i' : Nat) (SS : PH), n = i' ∧ i' ≤ j0 ∧ PH.le S4 SS ∧ Sat h SS (jA jb2 J2 :: dsk d D2 :: lst b2 38 (stV s y) :: jA jb J :: lst b1 47 [.int .u8 (fuse : Int), .slice kv.a kv.l kv.c] :: R)) (fun n _ => may.length - n.toNat) hS6 hz2 hstep (hs19.del 2)
    · have hl8 := (own.len hs8).1
      rw [stsV_len] at hl8
      refine CondP.of (fun hc => ?_) (fun hc => ?_)
      · have hm0 : may = [] := List.eq_nil_of_length_eq_zero (by simp at hc; omega)
        subst hm0
        refine ⟨_, _, ⟨none, 0, 0⟩, y, hs8.swap.cells 0 rfl, ?_⟩
        intro b8 h9 f9
        have hs9 : Sat h9 S2 (lst b8 38 (stV s y) :: own 38 4 x (stsV []) :: lst b2 38 (stV s y) :: jA jb J :: dsk d D :: lst b1 47 [.int .u8 (fuse : Int), .slice kv.a kv.l kv.c] :: R) := hs8.fresh f9
        refine appS1 (p := (s, y)) hs9 (by simp) fun v' h10 hs10 => ⟨[(s, y)], fun p hp => ?_, by simp, hF0 rfl, hs10⟩
        simp only [List.mem_singleton] at hp
        subst hp; exact ⟨hy, hsl⟩
      · have hne : may ≠ [] := by rintro rfl; simp at hl8 hc; omega
        exact ⟨may, hmo, hml, hF1 hne, hs8⟩
  ·
    refine ⟨fun p x n h => ∃ (i : Nat) (S' : PH) (jb : Nat) (J : Jn) (D : Dk) (G : List Sg) (s : PL) (y : Sl), p = some ⟨jb, 0, none⟩ ∧ x = ⟨none, 0, 0⟩ ∧ n = i ∧ i ≤ ops.length ∧ PH.le S S' ∧ JInv S' d many each D J G s i ∧ EL S' y s.es ∧ Sat h S' (lst b2 38 (stV s y) :: jA jb J :: dsk d D :: lst b1 47 [.int .u8 (fuse : Int), .slice kv.a kv.l kv.c] :: R), fun _ _ n _ => ops.length - n.toNat, ⟨0, S1, jb, J, Da, G, ⟨0, 0, []⟩, ⟨none, 0, 0⟩, rfl, rfl, rfl, Nat.zero_le _, hS1, hI, EL.nil _, hs7⟩, ?_⟩
    clear hs7 hI ha hDa
    rintro p x n h8 ⟨i, S2, jb, J, D, G, s, y, rfl, rfl, rfl, hi, hS2, hI, hy, hs8⟩ _
    have hel := hI.bnd.el
    have hli := hI.bnd.li
    refine CondP.of (fun hc => ?_) (fun hc => ?_)
    · have hc : i < ops.length := by simp at hc; omega
      obtain ⟨g, og, xo, ga, gc, gx⟩ := (hv.mono hS2).at hs8 hc
      refine ⟨⟨by omega, by omega⟩, NilP.of ga ⟨_, _, _, _, _, xo, gc, ?_⟩⟩
      intro b10 h9 f9
      have hs9 := hs8.fresh f9
      refine Sat.store (T := 40) (l := [.int .i64 0, .int .i64 0, .int .i64 0, .int .u64 0, .int .u64 0, .slice none 0 0]) hs9 (Nat.le_refl _) fun h10 hs10 => ?_
      have hs10 : Sat h10 S2 (lst b10 40 (opV ops[i] xo) :: lst b2 38 (stV s y) :: jA jb J :: dsk d D :: lst b1 47 [.int .u8 (fuse : Int), .slice kv.a kv.l kv.c] :: R) := hs10
      refine ⟨_, hs10.cell 0 rfl, CondP.of (fun hk4 => ?_) (fun hk4 => ?_)⟩
      · rw [i64_succ (by omega)]
        exact ⟨⟨i + 1, S2, jb, J, D, G, s, y, rfl, rfl, rfl, hc, hS2, ⟨hI.rest, hI.bnd.up (Nat.le_succ i), hI.log, hI.ents, hI.fld⟩, hy, hs10.drop⟩, by simp only [Int.toNat_natCast]; omega⟩
      refine ⟨_, _, ⟨none, 0, 0⟩, y, hs10.swap.cells 0 rfl, _, _, _, _, _, xo, hs10.cells 0 rfl, ?_⟩
      have hk4 : ops[i].kind ≠ 4 := by simpa using hk4
      have hob1 := hob _ (List.getElem_mem hc)
      generalize ops[i] = o at *
      refine step_spec (hs10.sel [2, 2]) hI (by omega) hy gx hob1 (by omega) (fun h => absurd h hk4) (fun jb' J' D' G' t y' h11 S3 hS3 hI2 ha2 hy' hs11 => ⟨_, _, _, ⟨none, 0, 0⟩, y', _, rfl, ?_⟩) (fun harm jb' J' D' t y' tb h11 S3 hS3 hA hy' htl hap hs11 => ⟨_, _, _, ⟨none, 0, 0⟩, y', _, rfl, ?_⟩)
      · intro b11 h12 f12
        have hs12 := hs11.fresh f12
        refine Sat.store (T := 38) (l := zsV) hs12 (by simp [zsV]) fun h13 hs13 => ?_
        have hs13 : Sat h13 S3 (lst b11 38 (stV t y') :: jA jb' J' :: dsk d D' :: lst b10 40 (opV o xo) :: lst b2 38 (stV s y) :: lst b1 47 [.int .u8 (fuse : Int), .slice kv.a kv.l kv.c] :: R) := hs13
        have hup := hI2.rest.mid.up
        refine down_spec (hs13.pick 2 rfl) ⟨_, rfl, ?_⟩
        rw [hup]
        refine CondP.of (fun hc => by cases hc) fun _ => CondP.of (fun hc => by cases hc) fun _ => ?_
        refine ⟨_, _, ⟨none, 0, 0⟩, y', hs13.cells 0 rfl, ?_⟩
        refine (hs13.pick 4 rfl).store (by simp [stV]) fun h14 hs14 => ?_
        have hs14 : Sat h14 S3 (lst b2 38 (stV t y') :: lst b11 38 (stV t y') :: jA jb' J' :: dsk d D' :: lst b10 40 (opV o xo) :: lst b1 47 [.int .u8 (fuse : Int), .slice kv.a kv.l kv.c] :: R) := hs14
        rw [i64_succ (by omega)]
        exact ⟨⟨i + 1, S3, jb', J', D', G', t, y', rfl, rfl, rfl, hc, hS2.trans hS3, hI2, hy', (hs14.del 1).del 3⟩, by simp only [Int.toNat_natCast]; omega⟩
      · intro b11 h12 f12
        have hs12 := hs11.fresh f12
        refine Sat.store (T := 38) (l := zsV) hs12 (by simp [zsV]) fun h13 hs13 => ?_
        have hs13 : Sat h13 S3 (lst b11 38 (stV t y') :: jA jb' J' :: dsk d D' :: lst b10 40 (opV o xo) :: lst b2 38 (stV s y) :: lst b1 47 [.int .u8 (fuse : Int), .slice kv.a kv.l kv.c] :: R) := hs13
        refine down_spec (hs13.pick 2 rfl) ⟨_, rfl, ?_⟩
        rw [hA.1]
        refine CondP.of (fun _ => ?_) (fun hc => by cases hc)
        refine ⟨_, _, ⟨none, 0, 0⟩, y, (hs13.pick 4 rfl).cells 0 rfl, _, _, ⟨none, 0, 0⟩, y', hs13.cells 0 rfl, ?_⟩
        intro b12 h14 f14
        have hs14 : Sat h14 S3 (lst b12 38 (stV s y ++ stV t y') :: lst b11 38 (stV t y') :: jA jb' J' :: dsk d D' :: lst b10 40 (opV o xo) :: lst b2 38 (stV s y) :: lst b1 47 [.int .u8 (fuse : Int), .slice kv.a kv.l kv.c] :: R) := hs13.fresh f14
        have hs15 : Sat h14 S3 (own 38 4 ⟨none, 0, 0⟩ (stsV []) :: lst b12 38 (stV s y ++ stV t y') :: lst b11 38 (stV t y') :: jA jb' J' :: dsk d D' :: lst b10 40 (opV o xo) :: lst b2 38 (stV s y) :: lst b1 47 [.int .u8 (fuse : Int), .slice kv.a kv.l kv.c] :: R) := own.new 38 4 hs14
        refine appS2 (us := []) (p := (s, y)) (q := (t, y')) hs15.swap (by simp) fun x38 h15 hs16 => ?_
        have hs16 : Sat h15 S3 (own 38 4 x38 (stsV [(s, y), (t, y')]) :: lst b11 38 (stV t y') :: jA jb' J' :: dsk d D' :: lst b10 40 (opV o xo) :: lst b2 38 (stV s y) :: lst b1 47 [.int .u8 (fuse : Int), .slice kv.a kv.l kv.c] :: R) := hs16
        have hyS := hy.mono hS3
        have base : MayOk S3 [(s, y), (t, y')] := by
          intro p hp
          simp only [List.mem_cons, List.not_mem_nil, or_false] at hp
          rcases hp with rfl | rfl
          · exact ⟨hyS, by show s.es.length ≤ 400; omega⟩
          · exact ⟨hy', by show t.es.length ≤ 400; omega⟩
        have after : ∀ may : List (PL × Sl), (∃ p ∈ may, p.1 = s) → (∃ p ∈ may, p.1 = t) → ((o.kind < 1 ∨ 3 < o.kind) → ∀ j, s.es.length ≤ j → j < t.es.length → ∃ p ∈ may, p.1 = ⟨s.fi, s.ft, t.es.take j⟩) → FinD many D' may := by
          intro may m1 m2 m3 D2 hc2
          obtain ⟨G2, tl, s2, k1, k2, k3, k4, k5⟩ := hA.2.2.2 D2 hc2
          refine ⟨G2, tl, s2, k1, k2, ?_, k4, k5⟩
          rcases k3 with rfl | rfl | ⟨kk, j, j1, j2, rfl⟩
          · exact m1
          · exact m2
          · exact m3 kk j j1 j2
        refine ⟨fun tt h => tt = decide (o.kind < 1 ∨ 3 < o.kind) ∧ Sat h S3 (own 38 4 x38 (stsV [(s, y), (t, y')]) :: lst b11 38 (stV t y') :: jA jb' J' :: dsk d D' :: lst b10 40 (opV o xo) :: lst b2 38 (stV s y) :: lst b1 47 [.int .u8 (fuse : Int), .slice kv.a kv.l kv.c] :: R), ?_, ?_⟩
        · rintro _ h16 ⟨rfl, hs17⟩ _
          refine CondP.of (fun hk => ?_) (fun hk => ?_)
          · have hkk := of_decide_eq_true hk
            obtain ⟨l, hl'⟩ := hap hkk
            have hst : s.es.length ≤ t.es.length := by rw [hl']; simp
            refine ⟨y, (hs17.pick 5 rfl).cell 3 rfl, ?_⟩
            have hyl := (EL.len hyS).1
            obtain ⟨hyl', hyc'⟩ := EL.len hy'
            refine ⟨fun x n h => ∃ (k : Nat) (may : List (PL × Sl)), n = k ∧ s.es.length ≤ k ∧ k ≤ t.es.length ∧ MayOk S3 may ∧ may.length = 2 + (k - s.es.length) ∧ (∃ p ∈ may, p.1 = s) ∧ (∃ p ∈ may, p.1 = t) ∧ (∀ j, s.es.length ≤ j → j < k → ∃ p ∈ may, p.1 = ⟨s.fi, s.ft, t.es.take j⟩) ∧
              Sat h S3 (own 38 4 x (stsV may) :: lst b11 38 (stV t y') :: jA jb' J' :: dsk d D' :: lst b10 40 (opV o xo) :: lst b2 38 (stV s y) :: lst b1 47 [.int .u8 (fuse : Int), .slice kv.a kv.l kv.c] :: R), fun _ n _ => t.es.length - n.toNat,
              ⟨s.es.length, _, by rw [hyl], Nat.le_refl _, hst, base, by simp, ⟨_, List.mem_cons_self, rfl⟩, ⟨_, List.mem_cons_of_mem _ List.mem_cons_self, rfl⟩, fun j j1 j2 => by omega, hs17⟩, ?_⟩
            rintro x n h17 ⟨k, may, rfl, hk1, hk2, hmo, hml, m1, m2, m3, hs18⟩ _
            refine ⟨y', hs18.swap.cell 3 rfl, CondP.of (fun hc => ?_) (fun hc => ?_)⟩
            · have hkt : k < t.es.length := by simp at hc; omega
              refine ⟨_, _, ⟨none, 0, 0⟩, (hs18.pick 5 rfl).cells 0 rfl, y', hs18.swap.cell 3 rfl, ⟨by omega, by omega, by omega⟩, ?_⟩
              intro b13 h18 f18
              have hs19 := hs18.fresh f18
              have hs19 : Sat h18 S3 (lst b13 38 (stV ⟨s.fi, s.ft, t.es.take k⟩ ⟨subA y'.a 0 y'.c 3, k, y'.c⟩) :: own 38 4 x (stsV may) :: lst b11 38 (stV t y') :: jA jb' J' :: dsk d D' :: lst b10 40 (opV o xo) :: lst b2 38 (stV s y) :: lst b1 47 [.int .u8 (fuse : Int), .slice kv.a kv.l kv.c] :: R) := hs19
              refine appS1 (p := (⟨s.fi, s.ft, t.es.take k⟩, ⟨subA y'.a 0 y'.c 3, k, y'.c⟩)) hs19 (by omega) fun x' h19 hs20 => ?_
              rw [i64_succ (by omega)]
              refine ⟨⟨k + 1, _, rfl, by omega, hkt, fun p hp => ?_, by rw [List.length_append, hml]; simp; omega, ?_, ?_, fun j j1 j2 => ?_, hs20⟩, by simp only [Int.toNat_natCast]; omega⟩
              · rcases List.mem_append.1 hp with hp | hp
                · exact hmo p hp
                · simp only [List.mem_singleton] at hp
                  subst hp
                  exact ⟨hy'.take (by omega), by show (t.es.take k).length ≤ 400; rw [List.length_take]; omega⟩
              · obtain ⟨p, hp, hps⟩ := m1
                exact ⟨p, List.mem_append_left _ hp, hps⟩
              · obtain ⟨p, hp, hps⟩ := m2
                exact ⟨p, List.mem_append_left _ hp, hps⟩
              · rcases Nat.lt_or_ge j k with hjk | hjk
                · obtain ⟨p, hp, hps⟩ := m3 j j1 hjk
                  exact ⟨p, List.mem_append_left _ hp, hps⟩
                · have : j = k := by omega
                  subst this
                  exact ⟨_, List.mem_append_right _ (List.mem_singleton.2 rfl), rfl⟩
            · have hkt : k = t.es.length := by simp at hc; omega
              exact ⟨S3, jb', J', D', may, s, y, hS2.trans hS3, hyS, by omega, by omega, hmo, by omega, (fun h => by rw [h] at hml; simp at hml; omega), fun _ => after may m1 m2 (fun _ j j1 j2 => m3 j j1 (by omega)), ((hs18.del 1).del 3).sel [0, 2]⟩
          · have hkk := of_decide_eq_false hk
            exact ⟨S3, jb', J', D', _, s, y, hS2.trans hS3, hyS, by omega, by omega, base, by simp, (fun h => by cases h), fun _ => after _ ⟨_, List.mem_cons_self, rfl⟩ ⟨_, List.mem_cons_of_mem _ List.mem_cons_self, rfl⟩ (fun h => absurd h hkk), ((hs17.del 1).del 3).sel [0, 2]⟩
        · refine ⟨_, (hs16.pick 4 rfl).cell 0 rfl, CondP.of (fun h1 => ⟨?_, hs16⟩) (fun h1 => ⟨_, (hs16.pick 4 rfl).cell 0 rfl, ?_, hs16⟩)⟩
          · exact (decide_eq_true (.inl (of_decide_eq_true h1))).symm
          · have h1 := of_decide_eq_false h1
            exact decide_eq_decide.2 ⟨fun h => .inr h, fun h => h.resolve_left h1⟩
    · exact ⟨S2, jb, J, D, [], s, y, hS2, hy, by omega, by omega, (fun p hp => by cases hp), by simp, fun _ => hI.fin (by omega), fun h => absurd rfl h, own.new 38 4 hs8⟩
end
end Go.Sx.Tryz
namespace Go.Sx.Tryz
open Go Go.Sx Go.Proofs Go.ChangeShapes Go.WideShapes Go.RowKit
set_option linter.unusedVariables false
section
variable {H : Type} {enc : TypeId × Value → H}
theorem okWide_st {P : Program} {w : World} {r : Reach} {base : Nat} {t : TypeId} {v : Value} {fs : Array Field} (ht : P.underlying t = some (.struct fs)) (h : Value.okWide P w r base t v) : ∃ cs, v = .agg cs ∧ cs.size = P.cellsOf t ∧ Row.okWide P w r base t cs := by
  unfold Value.okWide at h
  rw [ht] at h
  exact h
theorem two {cs : List Value} {v0 v1 : Value} (hl : cs.length = 2) (b0 : cs[0]? = some v0) (b1 : cs[1]? = some v1) : cs = [v0, v1] := by
  match cs, hl with
  | [u0, u1], _ => simp_all
theorem open_blow {W : World} {held : Bool} {fuel : Nat} {cs : List Value} {x : DataW H × List MemPlace} (h : DataW.trod enc Tryz.prog W 0 (fun _ => true) held fuel 47 cs = some x) :
    ∃ (f : Nat) (kv : Sl) (keep : List Int), cs = [.int .u8 (f : Int), .slice kv.a kv.l kv.c] ∧ f < 256 ∧ Rd (heapS W.heap) kv 1 (inV keep) := by
  obtain ⟨xs, n, _, _, hl, hn, hf⟩ := DataW.trod_struct Tryz.underlying47 h
  have hl : cs.length = 2 := hl.trans (by kernel_rfl)
  have c1 : Tryz.prog.cellsOf 5 = 1 := by kernel_rfl
  have c2 : Tryz.prog.cellsOf 45 = 1 := by kernel_rfl
  have hn : xs.length = 2 := hn
  match xs, hn with
  | [y0, y1], _ =>
  have q0 : DataW.trod enc Tryz.prog W 0 (fun _ => true) held n 5 ((cs.drop 0).take (Tryz.prog.cellsOf 5)) = some y0 := hf 0 _ rfl
  have q1 : DataW.trod enc Tryz.prog W 0 (fun _ => true) held n 45 ((cs.drop 1).take (Tryz.prog.cellsOf 45)) = some y1 := hf 1 _ rfl
  rw [c1] at q0
  rw [c2] at q1
  obtain ⟨z0, a0, _, w0⟩ := DataW.trod_int Tryz.underlying5 q0
  obtain ⟨kv, keep, a1, _, _, hk, _⟩ := trod_rdInts Tryz.underlying45 Tryz.underlying3 (by kernel_rfl) q1
  have hcs := two hl (one_of_take a0) (one_of_take a1)
  have w0 : 0 ≤ z0 ∧ z0 ≤ 255 := by simpa [Lit.wf, IntKind.min, IntKind.max, IntKind.signed, IntKind.bits] using w0
  refine ⟨z0.toNat, kv, keep, by rw [hcs, Int.toNat_of_nonneg w0.1], by omega, hk⟩
end
end Go.Sx.Tryz
namespace Go.Proofs.YtegikhoholfcmaaGreat.journalCrash
open Go.ChangeShapes Go.WideShapes Go.ChangeAt Go.RowKit
set_option linter.unusedVariables false
theorem own : ownKnob Tryz.prog.godebug = none := by kernel_rfl
theorem laid : laidOutB Tryz.prog = true := by kernel_rfl
set_option maxRecDepth 100000 in
theorem contract (H : Type) (enc : TypeId × Value → H) (W : World) (base : Nat) (args : Array Value) (ds gs : List (DataW H)) (before : List MemPlace)
    (hval : ∀ (j : Nat) t v, Tryz.f4.params[j]? = some t → args[j]? = some v → Value.okWide Tryz.prog W .any base t v)
    (hW : DataW.Whole enc Tryz.prog Tryz.f4.params.toList Rows.journalCrashSpec.vars false W args.toList ds gs before) :
    Calls Tryz.prog 4 args W fun e W' => ∃ v, e = .returned v ∧ Rows.journalCrashSpec.post enc Tryz.prog Tryz.f4 false true false false W args v W' := by
  have hW' := hW
  obtain ⟨p, q, hA0, hV, rfl, hfz, hnd⟩ := hW
  have hA : DataW.TrodAll enc Tryz.prog W 0 (fun _ => true) true Tryz.f4.params.toList args.toList ds p := hA0
  rw [Tryz.params4] at hA hval
  obtain ⟨v0, vs0, d0, ds0, p0, q0, hargs, rfl, rfl, h0, r0⟩ := trodAll_cons hA
  obtain ⟨v1, vs1, d1, ds1, p1, q1, rfl, rfl, rfl, h1, r1⟩ := trodAll_cons r0
  obtain ⟨v2, vs2, d2, ds2, p2, q2, rfl, rfl, rfl, h2, r2⟩ := trodAll_cons r1
  obtain ⟨v3, vs3, d3, ds3, p3, q3, rfl, rfl, rfl, h3, r3⟩ := trodAll_cons r2
  obtain ⟨rfl, rfl, rfl⟩ := trodAll_nil r3
  obtain rfl : args = #[v0, v1, v2, v3] := by cases args; simp_all
  obtain ⟨rfl, rfl⟩ := trodVars_none hV
  obtain ⟨m, rfl, rfl, rfl, w0⟩ := open_int Tryz.underlying3 (hval 0 3 v0 rfl rfl) h0
  obtain ⟨e, rfl, rfl, rfl, w1⟩ := open_int Tryz.underlying3 (hval 1 3 v1 rfl rfl) h1
  have h2' := h2
  obtain ⟨fuel, h2⟩ := h2
  obtain ⟨v, ops, hcs, hvl, hv⟩ := Sx.Tryz.open_ops h2
  clear hA0
  simp only [List.append_nil] at hW'
  obtain ⟨sa, sl, sc, rfl⟩ := okWide_slice Tryz.underlying22 (hval 2 22 v2 rfl rfl)
  obtain ⟨rfl, rfl, rfl⟩ : sa = v.a ∧ sl = v.l ∧ sc = v.c := by simpa [Value.cells] using hcs
  have h3' := h3
  obtain ⟨cs, rfl, hcz, _⟩ := Sx.Tryz.okWide_st Tryz.underlying47 (hval 3 47 v3 rfl rfl)
  obtain ⟨fuel3, h3⟩ := h3
  obtain ⟨fz, kv, keep, hcs3, hfz, hkv⟩ := Sx.Tryz.open_blow h3
  obtain rfl : cs = #[.int .u8 (fz : Int), .slice kv.a kv.l kv.c] := by
    rw [← Array.toList_inj]; exact hcs3
  refine (Sx.Tryz.crashes_spec (Sx.sat_all W.heap) hv hvl hfz hkv (K := fun v h => v = .bool true ∧ ∃ S', Sx.PH.le (Sx.heapS W.heap) S' ∧ Sx.Sat h S' []) (fun H' S' h1 h2 => ⟨rfl, S', h1, h2⟩) W rfl).mono fun e W' ⟨hw, v, he, hv, S', hS', hs'⟩ => ?_
  subst he hv
  have hb := Sx.below_of hw hS' hs'
  refine ⟨_, rfl, Sx.post_law (pv := []) hW' (fun _ _ _ => trodAll_cons_mk (shut_bool Tryz.underlying4 _) trodAll_mk0)
    (trodAll_cons_mk (shut_int Tryz.underlying3 w0) (trodAll_cons_mk (shut_int Tryz.underlying3 w1) (trodAll_cons_mk (Sx.trod_below laid (by kernel_rfl) (of_decide_eq_true (by kernel_rfl)) h2' hb fun x hx => hW'.lt x (by simp only [List.nil_append, List.mem_append]; exact .inl hx)) (trodAll_cons_mk (Sx.trod_below laid (by kernel_rfl) (of_decide_eq_true (by kernel_rfl)) h3' hb fun x hx => hW'.lt x (by simp only [List.nil_append, List.mem_append]; exact .inr hx)) trodAll_mk0)))) rfl hb⟩
set_option maxRecDepth 100000 in
theorem lifted (os : Os) (started : os.Started) (H : Type) (enc : TypeId × Value → H) :
    ReturnsInHanded {} Tryz.checked os 4 .any (Rows.journalCrashSpec.pre6 enc Tryz.prog Tryz.f4 Rows.journalCrashRow.domain false) (Rows.journalCrashSpec.post enc Tryz.prog Tryz.f4 false true false false) := by
  refine returnsInHanded_of_change (C := Tryz.checked) own started (by kernel_rfl) Tryz.func4
    (ChangeSpec.witness6 (enc := enc) (C := Tryz.checked) false ⟨#[], #[.int .i64 0, .int .i64 0, .slice none 0 0, .agg #[.int .u8 0, .slice none 0 0]], []⟩ 8 (by kernel_rfl) (by kernel_rfl) (by kernel_rfl) (by kernel_rfl)) ?_
  intro W base args ds gs before hval hW _ _
  exact contract H enc W base args ds gs before hval hW
theorem over : Rows.journalCrashRow.holds Tryz.pinned (OpenSpec.ofChange Rows.journalCrashSpec) :=
  OpenClaim.holds_of_wide 4 Tryz.f4 rfl rfl rfl rfl rfl rfl rfl ⟨rfl, rfl, rfl, rfl, rfl⟩ rfl rfl rfl rfl rfl (by kernel_rfl) Tryz.func4 (by kernel_rfl)
    (of_decide_eq_true (by kernel_rfl)) (by unfold Func.isWrapper; first | (rw [if_pos (by decide +kernel)]; kernel_rfl) | (rw [if_neg (by decide +kernel)]; exact ⟨rfl, rfl⟩))
    (fun os started H enc _ => lifted os started H enc)
theorem proved : Rows.JournalCrashSaid := over
end Go.Proofs.YtegikhoholfcmaaGreat.journalCrash

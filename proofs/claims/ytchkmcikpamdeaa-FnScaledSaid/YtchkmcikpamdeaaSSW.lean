/-
  The law file's own helpers over rows of rows of numbers: measured, copied, compared, marked, asked for its marks.
-/
import Derived.Test.YtchkmcikpamdeaaSS
namespace Go.Proofs.Ytchkmcikpamdeaa
open Go.RowKit
set_option linter.unusedSimpArgs false
set_option linter.unusedVariables false

set_option maxHeartbeats 1000000 in
theorem szIntSS_any (A : Option Addr) (n c : Nat) (hs : List Hd) (vss : List (List Value)) (left : Int) (w : World) (h0 : 0 ≤ left) (h1 : left ≤ 1048576) (hn : n ≤ 9223372036854775807) (h : RdSS w A n hs vss) (hb : ∀ x ∈ hs, x.2.1 ≤ 9223372036854775807) :
    Calls Try.prog 46 #[.slice A n c, .int .i64 left] w fun e w' => e = .returned (.int .i64 (szI left ((n : Int) + (tot vss : Int)))) ∧ w = w' := by
  have H := Lib.hid h
  have HB := Lib.hid hb
  clear h hb
  by_cases hl : left < n
  · have HS := Lib.hid (szI_no (left := left) (n := ((n : Int) + (tot vss : Int))) (by omega))
    go_enter Try.func46, Try.ntmps46
    go_wp2
    go_ret
    exact ⟨by rw [HS.out]; rfl, rfl⟩
  · have hl' : (n : Int) ≤ left := by omega
    clear hl
    go_enter Try.func46, Try.ntmps46
    go_wp2
    go_loop [1, 5] (fun ll i => ∃ k : Nat, k ≤ n ∧ i = .int .i64 k ∧ n + upto vss k ≤ left ∧ ll = .int .i64 (left - ((n + upto vss k : Nat)))) (fun _ i => n - (intOf i).toNat)
    case atStart => exact ⟨0, Nat.zero_le _, rfl, by rw [upto_zero]; omega, by rw [upto_zero]; simp⟩
    case round =>
      obtain ⟨k, hk, rfl, hle, rfl⟩ := hrel
      by_cases hlt : k < n
      · obtain ⟨x, vs, hx, hv, hr, hvl⟩ := H.out.get hlt
        obtain ⟨b, off, rfl, hbl, hcell⟩ := H.out.head hlt hx
        have hx3 := HB.out x (List.mem_of_getElem? hx)
        have hup := upto_succ hv
        have hup2 := upto_le vss (k + 1)
        obtain ⟨u, hu⟩ : ∃ u, upto vss k = u := ⟨_, rfl⟩
        rw [hu] at hup hle ⊢
        obtain ⟨xa, xn, xc⟩ := x
        simp only at hvl hcell hx3
        rw [hvl] at hup
        have HUP := Lib.hid hup
        have HUP2 := Lib.hid hup2
        by_cases hq : left - ((n : Int) + (u : Int)) < xn
        · have HT := Lib.hid (szI_no hq)
          have HS := Lib.hid (szI_no (left := left) (n := ((n : Int) + (tot vss : Int))) (by omega))
          clear hr hvl hx hv hup hup2
          go_wp2_with fail
          refine (szIntS_any xa xn xc _ (by omega) (by omega) (by omega) _).mono ?_
          rw [HT.out]
          rintro e w' ⟨rfl, rfl⟩
          go_wp2_with fail
          go_ret
          exact ⟨by rw [HS.out]; rfl, rfl⟩
        · have HT := Lib.hid (szI_yes (left := left - ((n : Int) + (u : Int))) (n := xn) (by omega))
          clear hr hvl hx hv hup hup2
          go_wp2_with fail
          refine (szIntS_any xa xn xc _ (by omega) (by omega) (by omega) _).mono ?_
          rw [HT.out]
          rintro e w' ⟨rfl, rfl⟩
          go_wp2_with fail
          go_round
          case rel => exact ⟨k + 1, by omega, by go_num, by rw [HUP.out]; omega, by rw [HUP.out]; congr 1; omega⟩
          case measure => simp [intOf]; omega
      · obtain rfl : k = n := by omega
        have HS := Lib.hid (szI_yes (left := left) (n := ((k : Int) + (tot vss : Int))) (by rw [← upto_all H.out.len]; omega))
        have HU := Lib.hid (upto_all H.out.len)
        rw [HU.out] at hle
        go_wp2
        go_ret
        exact ⟨by rw [HS.out, HU.out]; rfl, rfl⟩

theorem info_IntSS : (Try.prog.info? 26).map (fun i => (i.zero, i.size, i.bytes)) = some (some (Value.slice none 0 0), 1, 24) := by kernel_rfl
/-- hs up to now, nil behind it, n in all. -/
def fillH (hs : List Hd) (n : Nat) : List Value := hs.map hdV ++ List.replicate (n - hs.length) (Value.slice none 0 0)
theorem fillH_set (hs : List Hd) (n : Nat) (x : Hd) (h : hs.length < n) : (fillH hs n).set hs.length (hdV x) = fillH (hs ++ [x]) n := by
  unfold fillH
  rw [List.set_append_right _ _ (by simp), List.length_map, Nat.sub_self, show n - hs.length = (n - (hs.length + 1)) + 1 by omega, List.replicate_succ, List.set_cons_zero]
  simp
theorem fillH_full (hs : List Hd) (n : Nat) (h : hs.length = n) : fillH hs n = hs.map hdV := by simp [fillH, h]

set_option maxHeartbeats 2000000 in
theorem toIntSS_any (A : Option Addr) (n c : Nat) (hs : List Hd) (xss : List (List Int)) (w : World) (h : RdSS w A n hs (iss xss)) (hn : n ≤ 1048576) (hb : totI xss ≤ 1048576) :
    Calls Try.prog 53 #[.slice A n c] w fun e w' => ∃ hs', e = .returned (.slice (some ⟨w.heap.size, 0, none⟩) n n) ∧ OwSS w.heap.size w'.heap.size w' (some ⟨w.heap.size, 0, none⟩) n n hs' (iss xss) ∧ Below w.heap.size w w' := by
  have H := Lib.hid h
  obtain ⟨i0, hi0, hz0, hz1, hz2⟩ := info_parts info_IntSS
  have HI := Lib.hid hi0; have HZ := Lib.hid hz0; have HZ1 := Lib.hid hz1; have HZ2 := Lib.hid hz2
  have hlen : xss.length = n := by have := h.len; rwa [iss_len] at this
  have HB : Hid (∀ (k : Nat) (xs : List Int), xss[k]? = some xs → xs.length ≤ 1048576) := by
    intro k xs hk
    have h1 := upto_succ (iss_get hk)
    have h2 := upto_le (iss xss) (k + 1)
    rw [tot_iss] at h2
    simp only [List.length_map] at h1
    omega
  clear hi0 hz0 hz1 hz2 h hb
  go_enter Try.func53, Try.ntmps53
  go_wp2_with (at_make; refine wpList_make_full _ rfl _ _ 27 rfl w.heap.size 26 i0 (Value.slice none 0 0) 1 Try.underlying27 HI.out HZ.out HZ1.out .i64 .i64 _ _ n rfl rfl (by omega) (by omega) ?c1 ?c2 (Nat.le_refl _) ?_)
  case c1 => rw [HZ2.out]; omega
  case c2 => unfold maxLen; omega
  · intro w1 hown hgrow
    have hb : Below w.heap.size w w1 := (Below.refl _ _).grown hgrow (Nat.le_refl _) (fun k hk => by cases hk)
    have hown0 : w1.ownsRow w.heap.size 26 1 (.slice (some ⟨w.heap.size, 0, none⟩) n n) n (fillH [] n) := by
      rw [show fillH [] n = List.replicate n (Value.slice none 0 0) by simp [fillH], ← toList_madeCells_one]; simpa [Value.cells] using hown
    have hsz1 : w.heap.size + 1 ≤ w1.heap.size := (hown0.lt _ rfl).2
    have HOwn := Lib.hid hown0
    have HBel := Lib.hid hb
    clear hown hgrow hb hown0
    go_wp2
    go_loopw [4] (fun i wr => ∃ hs' : List Hd, hs'.length ≤ n ∧ i = .int .i64 (hs'.length : Nat) ∧ wr.ownsRow w.heap.size 26 1 (.slice (some ⟨w.heap.size, 0, none⟩) n n) n (fillH hs' n) ∧ RowsOw (w.heap.size + 1) wr.heap.size wr hs' (iss xss) ∧ w.heap.size + 1 ≤ wr.heap.size ∧ Below w.heap.size w wr) (fun i _ => n - (intOf i).toNat)
    case atStart => exact ⟨[], Nat.zero_le _, rfl, HOwn.out, RowsOw.nil _ _ _ _, hsz1, HBel.out⟩
    case round =>
      obtain ⟨hs', hk, rfl, hown, hrows, hsz, hbel⟩ := hrel
      by_cases hlt : hs'.length < n
      · obtain ⟨x, vs, hx, hv, hr, hvl⟩ := H.out.get hlt
        obtain ⟨b, off, hA, hbl, hcell⟩ := H.out.head hlt hx
        obtain ⟨xs, hxs, rfl⟩ := iss_get' hv
        have hxl := HB.out _ xs hxs
        subst hA
        have hcell' : wr.cell? ⟨b, off + hs'.length, none⟩ = some (.slice x.1 x.2.1 x.2.2) := (hbel.cell (p := ⟨b, off + hs'.length, none⟩) hbl).trans hcell
        have HR := Lib.hid (hr.below hbel (Nat.le_refl _))
        have HOwn1 := Lib.hid hown
        have HRows := Lib.hid hrows
        have HBel1 := Lib.hid hbel
        have HV := Lib.hid hv
        have HL := Lib.hid hlt
        obtain ⟨k, hkk⟩ : ∃ k, hs'.length = k := ⟨_, rfl⟩
        have HK := Lib.hid hkk
        simp only [List.length_map] at hvl
        rw [hkk] at hcell' hlt hk ⊢
        clear hown hrows hbel hcell hr hx hv
        go_wp2_with fail
        refine (toIntS_any x.1 x.2.1 x.2.2 xs _ HR.out (by omega)).mono ?_
        rintro e w2 ⟨rfl, o2, b2⟩
        have hz2 := b2.size
        have hown2 := own_below HOwn1.out b2 (Nat.le_refl _)
        have hfr : w2.frozen? ⟨w.heap.size, k, none⟩ = false := hown2.frozenAt k
        obtain ⟨old, hold⟩ : ∃ old, w2.cell? ⟨w.heap.size, k, none⟩ = some old := ⟨_, by rw [hown2.cellAt k (by omega)]; exact List.getElem?_eq_getElem (by have := hown2.1; omega)⟩
        obtain ⟨hs1, hs2⟩ := hown2.stored k (.slice (some ⟨wr.heap.size, 0, none⟩) x.2.1 x.2.1)
        have e1 : (fillH hs' n).set k (.slice (some ⟨wr.heap.size, 0, none⟩) x.2.1 x.2.1) = fillH (hs' ++ [(some ⟨wr.heap.size, 0, none⟩, x.2.1, x.2.1)]) n := by
          rw [← HK.out]; exact fillH_set hs' n (some ⟨wr.heap.size, 0, none⟩, x.2.1, x.2.1) HL.out
        rw [e1] at hs1
        have HS1 := Lib.hid hs1
        have HS2 : Hid (Below w.heap.size w (w2.setCell ⟨w.heap.size, k, none⟩ (.slice (some ⟨wr.heap.size, 0, none⟩) x.2.1 x.2.1))) := Below.setCell (p := ⟨w.heap.size, k, none⟩) (HBel1.out.trans (b2.mono (by omega))) (Nat.le_refl _) _
        have hrw : RowsOw (w.heap.size + 1) w2.heap.size w2 (hs' ++ [(some ⟨wr.heap.size, 0, none⟩, x.2.1, x.2.1)]) (iss xss) :=
          RowsOw.snoc (HRows.out.same (same_below b2 (Nat.le_refl _))) HV.out (Ow.of o2) (by omega) (Nat.le_refl _) hz2
        have HS3 := Lib.hid (hrw.grown hs2 (fun j y g e1 e2 e3 => by have := hrw.top j y g e1 e2; simp [Value.ownBlock] at e3; omega))
        clear hs1 hs2 hrw o2 b2 hown2 e1
        go_wp2_with fail
        go_roundw
        case rel => exact ⟨hs' ++ [(some ⟨wr.heap.size, 0, none⟩, x.2.1, x.2.1)], by simp [HK.out]; omega, by simp [HK.out], HS1.out, by simpa [World.size_setCell] using HS3.out, by rw [World.size_setCell]; omega, HS2.out⟩
        case measure => simp [intOf]; omega
      · have hkn : hs'.length = n := by omega
        have HO : Hid (OwSS w.heap.size wr.heap.size wr (some ⟨w.heap.size, 0, none⟩) n n hs' (iss xss)) := by
          refine ⟨⟨by rw [← fillH_full hs' n hkn]; exact hown, by intro k hk; simp [Value.ownBlock] at hk; omega⟩, by rw [iss_len]; exact hlen, hrows.wide (by omega) (Nat.le_refl _), fun j y g e1 e2 e3 => ?_⟩
          have := hrows.top j y g e1 e3
          simp [Value.ownBlock] at e2
          omega
        have HB1 := Lib.hid hbel
        rw [hkn]
        clear hown hrows hbel
        go_wp2
        go_ret
        exact ⟨hs', rfl, HO.out, HB1.out⟩

set_option maxHeartbeats 1000000 in
theorem eqIntSS_same (A C : Option Addr) (n c d : Nat) (hs gs : List Hd) (xss : List (List Int)) (w : World) (hx : RdSS w A n hs (iss xss)) (hy : RdSS w C n gs (iss xss)) (hn : n ≤ 1048576) (hb : totI xss ≤ 1048576) :
    Calls Try.prog 59 #[.slice A n c, .slice C n d] w fun e w' => e = .returned (.bool true) ∧ Below w.heap.size w w' := by
  have HX := Lib.hid hx; have HY := Lib.hid hy
  have HB : Hid (∀ (k : Nat) (xs : List Int), xss[k]? = some xs → xs.length ≤ 1048576) := by
    intro k xs hk
    have h1 := upto_succ (iss_get hk)
    have h2 := upto_le (iss xss) (k + 1)
    rw [tot_iss] at h2
    simp only [List.length_map] at h1
    omega
  clear hx hy hb
  go_enter Try.func59, Try.ntmps59
  go_wp2
  go_loopw [5] (fun i wr => ∃ k : Nat, k ≤ n ∧ i = .int .i64 k ∧ Below w.heap.size w wr) (fun i _ => n - (intOf i).toNat)
  case atStart => exact ⟨0, Nat.zero_le _, rfl, Below.refl _ _⟩
  case round =>
    obtain ⟨k, hk, rfl, hbel⟩ := hrel
    by_cases hlt : k < n
    · obtain ⟨x, vs, hx, hv, hr, hvl⟩ := HX.out.get hlt
      obtain ⟨b, off, rfl, hbl, hcell0⟩ := HX.out.head hlt hx
      obtain ⟨y, vs', hy, hv', hr', hvl'⟩ := HY.out.get hlt
      obtain ⟨b', off', rfl, hbl', hcell0'⟩ := HY.out.head hlt hy
      rw [hv] at hv'; obtain rfl := Option.some.inj hv'
      obtain ⟨xs, hxs, rfl⟩ := iss_get' hv
      have hxl := HB.out _ xs hxs
      simp only [List.length_map] at hvl hvl'
      obtain ⟨xa, xn, xc⟩ := x
      obtain ⟨ya, yn, yc⟩ := y
      simp only at hvl hvl' hcell0 hcell0' hr hr'
      subst hvl
      subst hvl'
      have hcell : wr.cell? ⟨b, off + k, none⟩ = some (.slice xa xs.length xc) := (hbel.cell (p := ⟨b, off + k, none⟩) hbl).trans hcell0
      have hcell' : wr.cell? ⟨b', off' + k, none⟩ = some (.slice ya xs.length yc) := (hbel.cell (p := ⟨b', off' + k, none⟩) hbl').trans hcell0'
      have HR := Lib.hid (hr.below hbel (Nat.le_refl _))
      have HR' := Lib.hid (hr'.below hbel (Nat.le_refl _))
      have HBel := Lib.hid hbel
      have l1 : b < wr.heap.size := World.block_lt_of_cell? wr ⟨b, off + k, none⟩ hcell; have l2 : b' < wr.heap.size := World.block_lt_of_cell? wr ⟨b', off' + k, none⟩ hcell'
      clear hbel hr hr' hcell0 hcell0' hx hy hv
      go_wp2_with fail
      go_region_held3 (fun w' => w'.cell? ⟨b, off + k, none⟩ = some (.slice xa xs.length xc) ∧ w'.cell? ⟨b', off' + k, none⟩ = some (.slice ya xs.length yc) ∧ Below wr.heap.size wr w')
        (first
          | exact ⟨hcell, hcell', (Below.refl _ _).drew⟩
          | exact ⟨(Below.cell (p := ⟨b, off + k, none⟩) b7 l1).trans hcell, (Below.cell (p := ⟨b', off' + k, none⟩) b7 l2).trans hcell', b7⟩)
        ((go_at_call 58; go_split_ands; refine (lift (eqIntS_same xa ya xs.length xc yc xs _ (HR.out.below (by assumption) (Nat.le_refl _)) (HR'.out.below (by assumption) (Nat.le_refl _)) (by omega)) (by assumption) (Nat.le_refl _)).mono ?_; rintro e w2 ⟨rfl, b7⟩))
      have HB2 := Lib.hid (HBel.out.trans (b7.mono HBel.out.size))
      clear b7
      go_wp2_with fail
      go_roundw
      case rel => exact ⟨k + 1, by omega, by go_num, HB2.out⟩
      case measure => simp [intOf]; omega
    · obtain rfl : k = n := by omega
      have HBel := Lib.hid hbel
      clear hbel
      go_wp2
      go_ret
      exact ⟨rfl, HBel.out⟩

set_option maxHeartbeats 1000000 in
theorem markIntSS_any (lo hi n c k : Nat) (A : Option Addr) (hs : List Hd) (vss : List (List Value)) (w : World) (h : OwSS lo hi w A n c hs vss) (hn : n ≤ 1048576) (hb : tot vss ≤ 1048576) (hk : k ≤ 1099511627776 - 1048576) :
    Calls Try.prog 65 #[.slice A n c, .int .i64 k] w fun e w' => e = .returned (.int .i64 ((k + tot vss : Nat) : Int)) ∧ OwSS lo hi w' A n c hs (marksSS k vss) ∧ Only lo hi w w' := by
  have HV := Lib.hid h.len
  have HRd := Lib.hid h.rd
  have HH := Lib.hid h.hlen
  have H := Lib.hid h
  clear h
  go_enter Try.func65, Try.ntmps65
  go_wp2
  go_loopw [1, 5] (fun kk i wr => ∃ q : Nat, q ≤ n ∧ i = .int .i64 q ∧ kk = .int .i64 ((k + upto vss q : Nat) : Int) ∧ OwSS lo hi wr A n c hs ((marksSS k vss).take q ++ vss.drop q) ∧ Only lo hi w wr) (fun _ i _ => n - (intOf i).toNat)
  case atStart => exact ⟨0, Nat.zero_le _, rfl, by rw [upto_zero]; rfl, by simpa using H.out, Only.refl _ _ _⟩
  case round =>
    obtain ⟨q, hq, rfl, rfl, hown, ho⟩ := hrel
    by_cases hlt : q < n
    · obtain ⟨x, vs, hx, hv, _, hvl⟩ := HRd.out.get hlt
      have hcur : ((marksSS k vss).take q ++ vss.drop q)[q]? = some vs := by
        have h1 : ((marksSS k vss).take q).length = q := by rw [List.length_take, marksSS_len]; have := HV.out; omega
        rw [List.getElem?_append_right (by omega), h1, Nat.sub_self, List.getElem?_drop, Nat.add_zero]; exact hv
      obtain ⟨b, off, rfl, hbl, hcell⟩ := hown.rd.head hlt hx
      have hrow := hown.rows.row q x vs hx hcur
      have hup := upto_succ hv
      have hup2 := upto_le vss (q + 1)
      obtain ⟨u, hu⟩ : ∃ u, upto vss q = u := ⟨_, rfl⟩
      rw [hu] at hup ⊢
      have HST := Lib.hid (marks_step (marksSS k vss) vss q _ (marksSS_get hv) (marksSS_len _ _))
      rw [hu] at HST
      have HU := Lib.hid hup
      have HX := Lib.hid hx; have HC := Lib.hid hcur; have HO := Lib.hid hown; have HN := Lib.hid ho; have HROW := Lib.hid hrow
      clear hx hcur hown ho hrow hv
      go_wp2_with fail
      refine (markIntS_any lo x.2.1 x.2.2 (k + u) x.1 vs _ HROW.out.own (by omega) (by omega)).mono ?_
      rintro e w2 ⟨rfl, o2, g2, z2⟩
      have HN2 := Lib.hid (HN.out.trans (HO.out.only HX.out HC.out g2))
      have HO2 := Lib.hid (HO.out.put HX.out g2 (⟨o2, HROW.out.top⟩ : Ow 3 lo hi w2 x.1 x.2.1 x.2.2 (marksIntS (k + u) x.2.1)))
      rw [← hvl, HST.out] at HO2
      clear o2 g2 z2
      go_wp2_with fail
      go_roundw
      case rel => exact ⟨q + 1, by omega, by go_num, by rw [HU.out]; congr 1; omega, HO2.out, HN2.out⟩
      case measure => simp [intOf]; omega
    · obtain rfl : q = n := by omega
      have HO : Hid (OwSS lo hi wr A q c hs (marksSS k vss)) := hown.cast (by rw [List.take_of_length_le (by rw [marksSS_len]; exact Nat.le_of_eq HV.out), List.drop_of_length_le (by exact Nat.le_of_eq HV.out), List.append_nil])
      have HN := Lib.hid ho
      have HU := Lib.hid (upto_all HV.out)
      clear hown ho
      rw [HU.out]
      go_wp2
      go_ret
      exact ⟨rfl, HO.out, HN.out⟩

set_option maxHeartbeats 1000000 in
theorem heldIntSS_any (A : Option Addr) (n c k : Nat) (hs : List Hd) (vss : List (List Value)) (w : World) (h : RdSS w A n hs (marksSS k vss)) (hl : vss.length = n) (hn : n ≤ 1048576) (hb : tot vss ≤ 1048576) (hk : k ≤ 1099511627776 - 1048576) :
    Calls Try.prog 67 #[.slice A n c, .int .i64 k] w fun e w' => e = .returned (.int .i64 ((k + tot vss : Nat) : Int)) ∧ w = w' := by
  have H := Lib.hid h
  have HV := Lib.hid hl
  clear h hl
  go_enter Try.func67, Try.ntmps67
  go_wp2
  go_loop [1, 5] (fun kk i => ∃ q : Nat, q ≤ n ∧ i = .int .i64 q ∧ kk = .int .i64 ((k + upto vss q : Nat) : Int)) (fun _ i => n - (intOf i).toNat)
  case atStart => exact ⟨0, Nat.zero_le _, rfl, by rw [upto_zero]; rfl⟩
  case round =>
    obtain ⟨q, hq, rfl, rfl⟩ := hrel
    by_cases hlt : q < n
    · obtain ⟨x, ms, hx, hm, hr, hml⟩ := H.out.get hlt
      obtain ⟨b, off, rfl, hbl, hcell⟩ := H.out.head hlt hx
      obtain ⟨vs, hv⟩ : ∃ vs, vss[q]? = some vs := ⟨_, List.getElem?_eq_getElem (by have := HV.out; omega)⟩
      have hm2 := marksSS_get (k := k) hv
      rw [hm] at hm2
      obtain rfl := Option.some.inj hm2
      rw [marksIntS_len] at hml
      have hup := upto_succ hv
      have hup2 := upto_le vss (q + 1)
      obtain ⟨u, hu⟩ : ∃ u, upto vss q = u := ⟨_, rfl⟩
      rw [hu] at hup hr ⊢
      rw [hml] at hr hup
      have HU := Lib.hid hup
      have HR := Lib.hid hr
      clear hr hm hm2 hx hv
      go_wp2_with fail
      refine (heldIntS_any x.1 x.2.1 x.2.2 (k + u) _ HR.out (by omega) (by omega)).mono ?_
      rintro e w2 ⟨rfl, rfl⟩
      go_wp2_with fail
      go_round
      case rel => exact ⟨q + 1, by omega, by go_num, by rw [HU.out]; congr 1; omega⟩
      case measure => simp [intOf]; omega
    · obtain rfl : q = n := by omega
      have HU := Lib.hid (upto_all HV.out)
      rw [HU.out]
      go_wp2
      go_ret
      exact ⟨rfl, rfl⟩

end Go.Proofs.Ytchkmcikpamdeaa

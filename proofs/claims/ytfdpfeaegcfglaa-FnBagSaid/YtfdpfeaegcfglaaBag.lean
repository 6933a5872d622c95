/-
  Bag of both packages: the weights of a list of draws.
-/
import Derived.Test.YtfdpfeaegcfglaaThr
import Derived.Test.YtfdpfeaegcfglaaObj
namespace Go.Proofs.Ytfdpfeaegcfglaa
open Go.RowKit
set_option linter.unusedSimpArgs false
set_option linter.unusedVariables false

theorem wtI_bd (l d : Int) : -1 ≤ wtI l d ∧ wtI l d ≤ 7 := by
  unfold wtI
  split
  · have := cntL_le (thrL l) d 7; omega
  · omega
def bagOk (l : Int) (xs : List Int) : Prop := ∀ d ∈ xs, 0 ≤ wtI l d
def bagL (l : Int) (xs : List Int) : List Int := xs.map (wtI l)
theorem bagL_succ (l : Int) (xs : List Int) (k : Nat) (h : k < xs.length) : bagL l (xs.take (k + 1)) = bagL l (xs.take k) ++ [wtI l (xs.getD k 0)] := by
  have e : xs.getD k 0 = xs[k] := by simp [List.getD, h]
  unfold bagL
  rw [List.take_succ_eq_append_getElem h, List.map_append, e]; rfl
theorem bagL_len (l : Int) (xs : List Int) : (bagL l xs).length = xs.length := by simp [bagL]

set_option maxHeartbeats 2000000 in
theorem iBag_any (l : Int) (A : Option Addr) (n c : Nat) (xs : List Int) (w : World) (h : Rd w A n (xs.map (Value.int .i64))) (hn : n ≤ 1073741824) : Calls Try.prog 33 #[.int .i64 l, .slice A n c] w fun e w' => Below w.heap.size w w' ∧
    ((bagOk l xs ∧ ∃ A' c', e = .returned (.slice A' n c') ∧ w'.ownsRow w.heap.size 3 1 (.slice A' n c') n ((bagL l xs).map (Value.int .i64))) ∨
     (¬ bagOk l xs ∧ ∃ A', e = .returned (.slice A' 0 0) ∧ A' = none)) := by
  have hlen : xs.length = n := by simpa using h.len
  have HL := Lib.hid hlen
  have H := Lib.hid h
  obtain ⟨i0, hi0, hz0, hz1, hz2⟩ := info_parts info_int
  have HI := Lib.hid hi0; have HZ := Lib.hid hz0; have HZ1 := Lib.hid hz1; have HZ2 := Lib.hid hz2
  have HE : Hid ((w.alloc (.cells #[] 3)).ownsRow w.heap.size 3 1 (.slice (some ⟨w.heap.size, 0, none⟩) 0 0) 0 ((bagL l (xs.take 0)).map (Value.int .i64))) := World.ownsRow_lit w #[] 0 (Nat.le_refl _) (by simp [maxLen]) rfl
  clear hi0 hz0 hz1 hz2 h hlen
  go_enter Try.func33, Try.ntmps33
  go_wp2_with fail
  go_loopw [5, 12] (fun out ii wr => ∃ (k : Nat) (A' : Option Addr) (c' : Nat), k ≤ n ∧ ii = .int .i64 k ∧ out = .slice A' k c' ∧ Hid (bagOk l (xs.take k)) ∧ wr.ownsRow w.heap.size 3 1 (.slice A' k c') k ((bagL l (xs.take k)).map (Value.int .i64)) ∧ Below w.heap.size w wr) (fun _ ii _ => n - (intOf ii).toNat)
  case atStart => exact ⟨0, _, _, Nat.zero_le _, rfl, rfl, (fun d hd => by simp at hd), HE.out, by go_grown⟩
  case round =>
    obtain ⟨k, A1, c1, hk, rfl, rfl, hok, hown, hbel⟩ := hrel
    by_cases hlt : k < n
    · obtain ⟨b, off, rfl, hbl, hc⟩ := H.out.ex (by omega)
      have hl : k < xs.length := by rw [HL.out]; exact hlt
      have hcell : wr.cell? ⟨b, off + k, none⟩ = some (.int .i64 (xs.getD k 0)) := (hbel.cell (p := ⟨b, off + k, none⟩) hbl).trans (hc k _ (by simp [List.getD, hl]))
      have HSucc := Lib.hid (bagL_succ l xs k hl)
      have HTake := Lib.hid (List.take_succ_eq_append_getElem hl)
      have hgd : xs[k] = xs.getD k 0 := by simp [List.getD, hl]
      have hmem : xs.getD k 0 ∈ xs := by simp [List.getD, hl]
      rw [hgd] at HTake
      obtain ⟨d, hd⟩ : ∃ d, xs.getD k 0 = d := ⟨_, rfl⟩
      rw [hd] at hcell HSucc HTake hmem
      obtain ⟨v0, v1⟩ := wtI_bd l d
      have HMem := Lib.hid hmem
      have HOwn := Lib.hid hown
      have HBel := Lib.hid hbel
      clear hc hgd hd hl hmem hown hbel
      go_wp2_with fail
      refine (iWeightOf_any l d _).mono ?_
      rintro e w2 ⟨rfl, hb2⟩
      have HOwn2 := Lib.hid (own_below HOwn.out hb2 (Nat.le_refl _))
      have HBel2 := Lib.hid (HBel.out.trans (hb2.mono HBel.out.size))
      have hsz2 := HBel2.out.size
      clear hb2 hcell
      by_cases hv : 0 ≤ wtI l d
      · have hv1 : (wtI l d == -1) = false := by simp; omega
        obtain ⟨v, hvv⟩ : ∃ v, wtI l d = v := ⟨_, rfl⟩
        rw [hvv] at v0 v1 hv hv1 HSucc ⊢
        have HV := Lib.hid hvv
        clear hvv
        go_wp2_with (at_builtin; refine wpList_append_own _ rfl _ _ 27 rfl w.heap.size 3 i0 (.int .i64 0) 1 8 Try.underlying27 HI.out HZ.out HZ1.out HZ2.out rfl (by decide) (.slice A1 k c1) k ((bagL l (xs.take k)).map (Value.int .i64)) rfl (HOwn2.out.alloc _) ⟨w2.heap.size, 0, none⟩ 1 1 [.int .i64 v] rfl rfl ?c1 ?c2 ?c3 ?c4 ?c5 ?_)
        case c1 => exact cell_one_new _ _ _
        case c2 => intro u hu; simp at hu; subst hu; rfl
        case c3 => unfold maxLen; omega
        case c4 => omega
        case c5 => simp; omega
        · intro v' w3 hown3 hgrow _
          obtain ⟨A', c', rfl⟩ := own_shape hown3
          have HO3 := Lib.hid (show w3.ownsRow w.heap.size 3 1 (.slice A' (k + 1) c') (k + 1) ((bagL l (xs.take (k + 1))).map (Value.int .i64)) by rw [HSucc.out, List.map_append]; exact hown3)
          have HB3 := Lib.hid ((HBel2.out.alloc (o := .cells #[.int .i64 v] 3) hsz2).grown hgrow (by simp; omega) (fun k hk => (HOwn2.out.lt k hk).1))
          have HK3 := Lib.hid (show bagOk l (xs.take (k + 1)) by
            rw [HTake.out]; intro y hy
            rcases List.mem_append.1 hy with h1 | h1
            · exact hok.out y h1
            · obtain rfl : y = d := by simpa using h1
              rw [HV.out]; exact hv)
          clear hown3 hgrow
          go_wp2_with fail
          go_roundw
          case rel => exact ⟨k + 1, A', c', by omega, by go_num, rfl, HK3.out, HO3.out, HB3.out⟩
          case measure => simp [intOf]; omega
      · have hv1 : (wtI l d == -1) = true := by simp; omega
        have hv2 : wtI l d < 0 := by omega
        have HNot := Lib.hid (show ¬ bagOk l xs from fun hh => hv (hh d HMem.out))
        clear hv
        go_wp2_with fail
        go_ret
        exact ⟨HBel2.out, .inr ⟨HNot.out, _, rfl, rfl⟩⟩
    · obtain rfl : k = n := by omega
      have e1 : xs.take k = xs := by rw [← HL.out, List.take_length]
      have HO := Lib.hid (show wr.ownsRow w.heap.size 3 1 (.slice A1 k c1) k ((bagL l xs).map (Value.int .i64)) by rw [e1] at hown; exact hown)
      have HK := Lib.hid (show bagOk l xs by have := hok.out; rw [e1] at this; exact this)
      have HBel := Lib.hid hbel
      clear e1 hown hbel
      go_wp2_with fail
      go_ret
      exact ⟨HBel.out, .inl ⟨HK.out, A1, c1, rfl, HO.out⟩⟩

set_option maxHeartbeats 2000000 in
theorem sBag_any (l : Int) (A : Option Addr) (n c : Nat) (xs : List Int) (w : World) (h : Rd w A n (xs.map (Value.int .i64))) (hn : n ≤ 1073741824) : Calls Try.prog 35 #[.int .i64 l, .slice A n c] w fun e w' => Below w.heap.size w w' ∧
    ((bagOk l xs ∧ ∃ A' c', e = .returned (.slice A' n c') ∧ w'.ownsRow w.heap.size 3 1 (.slice A' n c') n ((bagL l xs).map (Value.int .i64))) ∨
     (¬ bagOk l xs ∧ ∃ A', e = .returned (.slice A' 0 0))) := by
  have hlen : xs.length = n := by simpa using h.len
  have HL := Lib.hid hlen
  have H := Lib.hid h
  obtain ⟨i0, hi0, hz0, hz1, hz2⟩ := info_parts info_int
  have HI := Lib.hid hi0; have HZ := Lib.hid hz0; have HZ1 := Lib.hid hz1; have HZ2 := Lib.hid hz2
  have HE : Hid ((w.alloc (.cells #[] 3)).ownsRow w.heap.size 3 1 (.slice (some ⟨w.heap.size, 0, none⟩) 0 0) 0 ((bagL l (xs.take 0)).map (Value.int .i64))) := World.ownsRow_lit w #[] 0 (Nat.le_refl _) (by simp [maxLen]) rfl
  clear hi0 hz0 hz1 hz2 h hlen
  go_enter Try.func35, Try.ntmps35
  go_wp2_with fail
  go_loopw [5, 6] (fun out ii wr => ∃ (k : Nat) (A' : Option Addr) (c' : Nat), k ≤ n ∧ ii = .int .i64 k ∧ out = .slice A' k c' ∧ Hid (bagOk l (xs.take k)) ∧ wr.ownsRow w.heap.size 3 1 (.slice A' k c') k ((bagL l (xs.take k)).map (Value.int .i64)) ∧ Below w.heap.size w wr) (fun _ ii _ => n - (intOf ii).toNat)
  case atStart => exact ⟨0, _, _, Nat.zero_le _, rfl, rfl, (fun d hd => by simp at hd), HE.out, by go_grown⟩
  case round =>
    obtain ⟨k, A1, c1, hk, rfl, rfl, hok, hown, hbel⟩ := hrel
    by_cases hlt : k < n
    · obtain ⟨b, off, rfl, hbl, hc⟩ := H.out.ex (by omega)
      have hl : k < xs.length := by rw [HL.out]; exact hlt
      have hcell : wr.cell? ⟨b, off + k, none⟩ = some (.int .i64 (xs.getD k 0)) := (hbel.cell (p := ⟨b, off + k, none⟩) hbl).trans (hc k _ (by simp [List.getD, hl]))
      have HSucc := Lib.hid (bagL_succ l xs k hl)
      have HTake := Lib.hid (List.take_succ_eq_append_getElem hl)
      have hgd : xs[k] = xs.getD k 0 := by simp [List.getD, hl]
      have hmem : xs.getD k 0 ∈ xs := by simp [List.getD, hl]
      rw [hgd] at HTake
      obtain ⟨d, hd⟩ : ∃ d, xs.getD k 0 = d := ⟨_, rfl⟩
      rw [hd] at hcell HSucc HTake hmem
      obtain ⟨v0, v1⟩ := wtI_bd l d
      have HMem := Lib.hid hmem
      have HOwn := Lib.hid hown
      have HBel := Lib.hid hbel
      clear hc hgd hd hl hmem hown hbel
      go_wp2_with fail
      refine (sWeightOf_any l d _).mono ?_
      rintro e w2 ⟨rfl, hb2⟩
      have HOwn2 := Lib.hid (own_below HOwn.out hb2 (Nat.le_refl _))
      have HBel2 := Lib.hid (HBel.out.trans (hb2.mono HBel.out.size))
      have hsz2 := HBel2.out.size
      clear hb2 hcell
      by_cases hv : 0 ≤ wtI l d
      · have hv1 : (wtI l d == -1) = false := by simp; omega
        obtain ⟨v, hvv⟩ : ∃ v, wtI l d = v := ⟨_, rfl⟩
        rw [hvv] at v0 v1 hv hv1 HSucc ⊢
        have HV := Lib.hid hvv
        clear hvv
        go_wp2_with (at_builtin; refine wpList_append_own _ rfl _ _ 27 rfl w.heap.size 3 i0 (.int .i64 0) 1 8 Try.underlying27 HI.out HZ.out HZ1.out HZ2.out rfl (by decide) (.slice A1 k c1) k ((bagL l (xs.take k)).map (Value.int .i64)) rfl (HOwn2.out.alloc _) ⟨w2.heap.size, 0, none⟩ 1 1 [.int .i64 v] rfl rfl ?c1 ?c2 ?c3 ?c4 ?c5 ?_)
        case c1 => exact cell_one_new _ _ _
        case c2 => intro u hu; simp at hu; subst hu; rfl
        case c3 => unfold maxLen; omega
        case c4 => omega
        case c5 => simp; omega
        · intro v' w3 hown3 hgrow _
          obtain ⟨A', c', rfl⟩ := own_shape hown3
          have HO3 := Lib.hid (show w3.ownsRow w.heap.size 3 1 (.slice A' (k + 1) c') (k + 1) ((bagL l (xs.take (k + 1))).map (Value.int .i64)) by rw [HSucc.out, List.map_append]; exact hown3)
          have HB3 := Lib.hid ((HBel2.out.alloc (o := .cells #[.int .i64 v] 3) hsz2).grown hgrow (by simp; omega) (fun k hk => (HOwn2.out.lt k hk).1))
          have HK3 := Lib.hid (show bagOk l (xs.take (k + 1)) by
            rw [HTake.out]; intro y hy
            rcases List.mem_append.1 hy with h1 | h1
            · exact hok.out y h1
            · obtain rfl : y = d := by simpa using h1
              rw [HV.out]; exact hv)
          clear hown3 hgrow
          go_wp2_with fail
          go_roundw
          case rel => exact ⟨k + 1, A', c', by omega, by go_num, rfl, HK3.out, HO3.out, HB3.out⟩
          case measure => simp [intOf]; omega
      · have hv1 : (wtI l d == -1) = true := by simp; omega
        have hv2 : wtI l d < 0 := by omega
        have HNot := Lib.hid (show ¬ bagOk l xs from fun hh => hv (hh d HMem.out))
        clear hv
        go_wp2_with fail
        go_ret
        exact ⟨by have := HBel2.out; go_grown, .inr ⟨HNot.out, _, rfl⟩⟩
    · obtain rfl : k = n := by omega
      have e1 : xs.take k = xs := by rw [← HL.out, List.take_length]
      have HO := Lib.hid (show wr.ownsRow w.heap.size 3 1 (.slice A1 k c1) k ((bagL l xs).map (Value.int .i64)) by rw [e1] at hown; exact hown)
      have HK := Lib.hid (show bagOk l xs by have := hok.out; rw [e1] at this; exact this)
      have HBel := Lib.hid hbel
      clear e1 hown hbel
      go_wp2_with fail
      go_ret
      exact ⟨HBel.out, .inl ⟨HK.out, A1, c1, rfl, HO.out⟩⟩

theorem iBag_yes (l : Int) (A : Option Addr) (n c : Nat) (xs : List Int) (w : World) (h : Rd w A n (xs.map (Value.int .i64))) (hn : n ≤ 1073741824) (hok : bagOk l xs) : Calls Try.prog 33 #[.int .i64 l, .slice A n c] w fun e w' => ∃ A' c', e = .returned (.slice A' n c') ∧ w'.ownsRow w.heap.size 3 1 (.slice A' n c') n ((bagL l xs).map (Value.int .i64)) ∧ Below w.heap.size w w' :=
  (iBag_any l A n c xs w h hn).mono fun e w' ⟨h1, h2⟩ => by
    rcases h2 with ⟨_, A', c', h3, h4⟩ | ⟨h3, _⟩
    · exact ⟨A', c', h3, h4, h1⟩
    · exact absurd hok h3
theorem sBag_yes (l : Int) (A : Option Addr) (n c : Nat) (xs : List Int) (w : World) (h : Rd w A n (xs.map (Value.int .i64))) (hn : n ≤ 1073741824) (hok : bagOk l xs) : Calls Try.prog 35 #[.int .i64 l, .slice A n c] w fun e w' => ∃ A' c', e = .returned (.slice A' n c') ∧ w'.ownsRow w.heap.size 3 1 (.slice A' n c') n ((bagL l xs).map (Value.int .i64)) ∧ Below w.heap.size w w' :=
  (sBag_any l A n c xs w h hn).mono fun e w' ⟨h1, h2⟩ => by
    rcases h2 with ⟨_, A', c', h3, h4⟩ | ⟨h3, _⟩
    · exact ⟨A', c', h3, h4, h1⟩
    · exact absurd hok h3
theorem iBag_no (l : Int) (A : Option Addr) (n c : Nat) (xs : List Int) (w : World) (h : Rd w A n (xs.map (Value.int .i64))) (hn : n ≤ 1073741824) (hok : ¬ bagOk l xs) : Calls Try.prog 33 #[.int .i64 l, .slice A n c] w fun e w' => e = .returned (.slice none 0 0) ∧ Below w.heap.size w w' :=
  (iBag_any l A n c xs w h hn).mono fun e w' ⟨h1, h2⟩ => by
    rcases h2 with ⟨h3, _⟩ | ⟨_, A', h3, rfl⟩
    · exact absurd h3 hok
    · exact ⟨h3, h1⟩
theorem sBag_no (l : Int) (A : Option Addr) (n c : Nat) (xs : List Int) (w : World) (h : Rd w A n (xs.map (Value.int .i64))) (hn : n ≤ 1073741824) (hok : ¬ bagOk l xs) : Calls Try.prog 35 #[.int .i64 l, .slice A n c] w fun e w' => ∃ A', e = .returned (.slice A' 0 0) ∧ Below w.heap.size w w' :=
  (sBag_any l A n c xs w h hn).mono fun e w' ⟨h1, h2⟩ => by
    rcases h2 with ⟨h3, _⟩ | ⟨_, A', h3⟩
    · exact absurd h3 hok
    · exact ⟨A', h3, h1⟩

end Go.Proofs.Ytfdpfeaegcfglaa

/-
  slices.Clone over numbers; cloneLists of impl.
-/
import Derived.Test.YtchkmcikpamdeaaMerO
import Derived.Test.YtchkmcikpamdeaaSSW
import Derived.Deep.AppendLies
namespace Go.Proofs.Ytchkmcikpamdeaa
open Go.RowKit
set_option linter.unusedSimpArgs false
set_option linter.unusedVariables false

theorem i64_one (xs : List Int) : ∀ u ∈ xs.map (Value.int .i64), u.oneCell' = true := by
  intro u hu; obtain ⟨z, _, rfl⟩ := List.mem_map.1 hu; rfl

set_option maxRecDepth 20000 in
set_option maxHeartbeats 1000000 in
theorem cloneI_some (ad : Addr) (n c : Nat) (xs : List Value) (w : World) (h : Rd w (some ad) n xs) (hn : n ≤ 1073741824) (h1 : ∀ u ∈ xs, u.oneCell' = true) :
    Calls Try.prog 93 #[.slice (some ad) n c] w fun e w' => ∃ A' c', e = .returned (.slice A' n c') ∧ w'.ownsRow w.heap.size 3 1 (.slice A' n c') n xs ∧ Below w.heap.size w w' := by
  have hnil := fun (W : World) (a : Option Addr) (n c n' c' : Nat) => Lib.run_eql_slice_nil (P := Try.prog) W 26 3 a n c n' c' Try.underlying26
  have H := Lib.hid h
  have H1 := Lib.hid h1
  obtain ⟨i0, hi0, hz0, hz1, hz2⟩ := info_parts info_IntS
  have HI := Lib.hid hi0; have HZ := Lib.hid hz0; have HZ1 := Lib.hid hz1; have HZ2 := Lib.hid hz2
  clear hi0 hz0 hz1 hz2 h h1
  go_enter Try.func93, Try.ntmps93
  go_wp2_with (at_builtin; refine wpList_append_own _ rfl _ _ 26 rfl w.heap.size 3 i0 _ 1 _ Try.underlying26 HI.out HZ.out HZ1.out HZ2.out rfl (by decide) (.slice (some ⟨w.heap.size, 0, none⟩) 0 0) 0 [] rfl (World.ownsRow_lit w #[] 0 (Nat.le_refl _) (by simp [maxLen]) rfl) ad n c xs rfl ?c1 ?c2 ?c3 ?c4 ?c5 ?c6 ?_)
  case c1 => simpa using H.out.len
  case c2 =>
    intro j u hj
    have hn0 : 0 < n := by have := (List.getElem?_eq_some_iff.1 hj).1; have := H.out.len; omega
    obtain ⟨b', off', he, hlt, hc⟩ := H.out.ex hn0
    injection he with he
    subst he
    rw [Go.WideShapes.add_plain]
    exact (World.cell?_alloc_lt _ _ _ hlt).trans (hc j u hj)
  case c3 => exact H1.out
  case c4 => unfold maxLen; omega
  case c5 => omega
  case c6 => simp
  · intro v' w2 hown2 hgrow _
    try simp only [Nat.zero_add, List.nil_append] at hown2
    obtain ⟨A', c', rfl⟩ := own_shape hown2
    have HO := Lib.hid hown2
    have HB := Lib.hid (show Below w.heap.size w w2 from (below_alloc1 (.cells #[] 3)).grown hgrow (by simp) (fun k hk => by simp [Value.ownBlock] at hk; omega))
    clear hown2 hgrow
    go_wp2
    go_ret
    exact ⟨A', c', rfl, HO.out, HB.out⟩

theorem cloneI_nil (n c : Nat) (w : World) : Calls Try.prog 93 #[.slice none n c] w fun e w' => e = .returned (.slice none 0 0) ∧ w = w' := by
  have hnil := fun (W : World) (a : Option Addr) (n c n' c' : Nat) => Lib.run_eql_slice_nil (P := Try.prog) W 26 3 a n c n' c' Try.underlying26
  go_enter Try.func93, Try.ntmps93
  go_wp2
  go_ret
  exact ⟨rfl, rfl⟩

/-- Clone of whatever reads as a row of numbers. -/
theorem cloneI_any (A : Option Addr) (n c : Nat) (xs : List Value) (w : World) (h : Rd w A n xs) (hn : n ≤ 1073741824) (h1 : ∀ u ∈ xs, u.oneCell' = true) :
    Calls Try.prog 93 #[.slice A n c] w fun e w' => ∃ A' c', e = .returned (.slice A' n c') ∧ w'.ownsRow w.heap.size 3 1 (.slice A' n c') n xs ∧ Below w.heap.size w w' := by
  cases A with
  | some ad => exact cloneI_some ad n c xs w h hn h1
  | none =>
    have hn0 : n = 0 := by
      rcases Nat.eq_zero_or_pos n with h0 | h0
      · exact h0
      · obtain ⟨_, _, he, _⟩ := h.ex h0; cases he
    subst hn0
    have hx : xs = [] := List.eq_nil_of_length_eq_zero h.len
    subst hx
    exact (cloneI_nil 0 c w).mono fun e w' ⟨he, hw⟩ => ⟨none, 0, he, World.ownsRow_nil _ _ _ _, hw ▸ Below.refl _ _⟩

theorem iss_take {xss : List (List Int)} {k : Nat} {xs : List Int} (h : xss[k]? = some xs) : iss (xss.take k) ++ [xs.map (Value.int .i64)] = iss (xss.take (k + 1)) := by
  obtain ⟨h1, h2⟩ := List.getElem?_eq_some_iff.1 h
  rw [List.take_succ_eq_append_getElem h1, h2]; simp [iss]

set_option maxRecDepth 20000 in
set_option maxHeartbeats 4000000 in
theorem iCloneLists_any (A : Option Addr) (n c : Nat) (hs : List Hd) (xss : List (List Int)) (w : World) (h : RdSS w A n hs (iss xss)) (hb : totI xss ≤ 1048576) (hn : n ≤ 1048576) :
    Calls Try.prog 94 #[.slice A n c] w fun e w' => ∃ A' c' hs', e = .returned (.slice A' n c') ∧ OwSS w.heap.size w'.heap.size w' A' n c' hs' (iss xss) ∧ Below w.heap.size w w' := by
  have H := Lib.hid h
  have HXL : Hid (xss.length = n) := by have := h.len; rwa [iss_len] at this
  have HB : Hid (∀ (k : Nat) (xs : List Int), xss[k]? = some xs → xs.length ≤ 1048576) := by
    intro k xs hk
    have h1 := upto_succ (iss_get hk)
    have h2 := upto_le (iss xss) (k + 1)
    rw [tot_iss] at h2
    simp only [List.length_map] at h1
    omega
  obtain ⟨i0, hi0, hz0, hz1, hz2⟩ := info_parts info_IntSS
  have HJ := Lib.hid hi0; have HJ0 := Lib.hid hz0; have HJ1 := Lib.hid hz1; have HJ2 := Lib.hid hz2
  clear hi0 hz0 hz1 hz2 h hb
  go_enter Try.func94, Try.ntmps94
  go_wp2_with fail
  go_loopw [3, 8] (fun out ii wr => ∃ (k : Nat) (A1 : Option Addr) (c1 : Nat) (g1 : List Hd), k ≤ n ∧ out = .slice A1 k c1 ∧ ii = .int .i64 k ∧ OwSS w.heap.size wr.heap.size wr A1 k c1 g1 (iss (xss.take k)) ∧ Below w.heap.size w wr) (fun _ ii _ => n - (intOf ii).toNat)
  case atStart => exact ⟨0, none, 0, [], Nat.zero_le _, rfl, rfl, OwSS.nil _ _ _, Below.refl _ _⟩
  case round =>
    obtain ⟨k, A1, c1, g1, hk, rfl, rfl, hpar, hbel⟩ := hrel
    obtain ⟨wo, rfl⟩ : ∃ wo : World, wo = wr := ⟨_, rfl⟩
    have HPar := Lib.hid hpar; have HBel := Lib.hid hbel
    have hzo := hbel.size
    clear hpar hbel
    by_cases hlt : k < n
    · obtain ⟨x, vs, hx, hv, hr, hvl⟩ := H.out.get hlt
      obtain ⟨b, off, rfl, hbl, hcell⟩ := H.out.head hlt hx
      obtain ⟨xs, hxs, rfl⟩ := iss_get' hv
      have hxl := HB.out _ xs hxs
      obtain ⟨xa, xn, xc⟩ := x
      simp only [List.length_map] at hvl hcell hr
      have hcell' : wo.cell? ⟨b, off + k, none⟩ = some (.slice xa xn xc) := (HBel.out.cell (p := ⟨b, off + k, none⟩) hbl).trans hcell
      have HR := Lib.hid (hr.below HBel.out (Nat.le_refl _))
      have HTk := Lib.hid (iss_take hxs)
      have k0 : (0 : Int) ≤ (k : Int) := Int.natCast_nonneg _
      have k1 : (k : Int) < (n : Int) := by omega
      clear hcell hr hx hv hxs
      go_wp2_with fail
      refine (cloneI_any xa xn xc _ _ HR.out (by omega) (i64_one xs)).mono ?_
      rintro e u2 ⟨A2, c2, rfl, o2, b2⟩
      have hz2 := b2.size
      have HL2 : Hid (Ow 3 wo.heap.size u2.heap.size u2 A2 xn c2 (xs.map (Value.int .i64))) := Ow.of o2
      have HP2 := Lib.hid (HPar.out.same (same_below b2 (Nat.le_refl _)))
      have HB2 : Hid (Below w.heap.size w u2) := HBel.out.trans (b2.mono hzo)
      clear o2 b2 HPar HBel hcell' HR
      go_wp2_with (at_builtin; refine wpList_append_lies _ rfl _ _ 27 rfl w.heap.size 26 i0 (.slice none 0 0) 1 24 Try.underlying27 HJ.out HJ0.out HJ1.out HJ2.out rfl (by decide) (.slice A1 k c1) k (g1.map hdV) rfl (HP2.out.hd.own.alloc _) ⟨u2.heap.size, 0, none⟩ 1 1 [.slice A2 xn c2] rfl rfl ?c1 ?c2 (by omega) ?c3 ?c4 ?c5 _ rfl ?_)
      case c1 => exact cell_one_new _ _ _
      case c2 => intro u hu; simp at hu; subst hu; rfl
      case c3 => unfold maxLen; omega
      case c4 => omega
      case c5 => simp only [World.size_alloc]; omega
      intro g7 cap7 u6 hown7 hgrow7 hat7 hlt7
      have HP7 : Hid (OwSS w.heap.size u6.heap.size u6 (some ⟨g7, 0, none⟩) (k + 1) cap7 (g1 ++ [(A2, xn, c2)]) (iss (xss.take (k + 1)))) := by
        unfold Hid
        rw [← HTk.out]
        refine OwSS.push (w := u2.alloc (.cells #[.slice A2 xn c2] 26)) (x := (A2, xn, c2)) (HP2.out.same (same_alloc _ hz2)) (HL2.out.same (same_alloc _ (Nat.le_refl _))) hzo (Nat.le_refl _) hz2 (by simp only [World.size_alloc]; omega) hown7 hgrow7 ?_
        rcases hat7 with h | h
        · exact .inl h
        · exact .inr (by simp only [World.size_alloc] at h ⊢; omega)
      have HB7 : Hid (Below w.heap.size w u6) := Below.grown (HB2.out.alloc (by omega) _) hgrow7 (by simp only [World.size_alloc]; omega) (fun kk hk => (HP2.out.hd.own.lt kk hk).1)
      clear hown7 hgrow7 hat7 HP2 HL2 HB2
      go_wp2_with fail
      go_roundw
      case rel => exact ⟨k + 1, _, _, _, by omega, rfl, by go_num, HP7.out, HB7.out⟩
      case measure => simp [intOf]; omega
    · obtain rfl : n = k := by omega
      have htk : xss.take n = xss := List.take_of_length_le (Nat.le_of_eq HXL.out)
      go_wp2_with fail
      go_ret
      exact ⟨A1, c1, g1, rfl, htk ▸ HPar.out, HBel.out⟩

end Go.Proofs.Ytchkmcikpamdeaa

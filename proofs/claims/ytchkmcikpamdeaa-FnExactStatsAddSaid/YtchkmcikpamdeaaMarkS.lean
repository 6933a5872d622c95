/-
  Marks in schemas and statistics; what is marked is forgotten.
-/
import Derived.Test.YtchkmcikpamdeaaMarkA
import Derived.Test.YtchkmcikpamdeaaStatW
namespace Go.Proofs.Ytchkmcikpamdeaa
open Go.RowKit
set_option linter.unusedSimpArgs false
set_option linter.unusedVariables false

set_option maxHeartbeats 700000 in
theorem markSchema_any (lo hi mid n c m d k : Nat) (A C : Option Addr) (hs : List AH) (ats : List AD) (cs : List ByteArray) (w : World) (h : OwSch lo hi w A C n c m d mid hs ats cs) (hhi : hi ≤ w.heap.size) (hn : n ≤ 1048576) (hb : asTot ats ≤ 1048576) (hm : m ≤ 1048576) (hk : k ≤ 1048576) :
    Calls Try.prog 20 #[.agg #[.slice A n c, .slice C m d], .int .i64 (k : Nat)] w fun e w' => (∃ K : Nat, e = .returned (.int .i64 (K : Nat)) ∧ K ≤ k + n + asTot ats + m) ∧ Only lo hi w w' := by
  have hle := h.le
  have b1 : Bx (w.alloc (.cells #[.slice A n c, .slice C m d] 40)) w.heap.size 40 #[.slice A n c, .slice C m d] := Bx.new _ _ _
  have HO0 : Hid (Only lo hi w (w.alloc (.cells #[.slice A n c, .slice C m d] 40))) := Only.of_below (below_alloc1 _) (Nat.le_refl _)
  have H1 := Lib.hid (h.same (same_alloc (.cells #[.slice A n c, .slice C m d] 40) hhi))
  clear h
  go_enter Try.func20, Try.ntmps20
  go_wp2_with fail
  refine (markAttrS_any lo mid n c k A hs ats _ H1.out.at_ (by simp; omega) hle.1 hn hb hk).mono ?_
  rintro e w1 ⟨⟨K, rfl, hK⟩, ho⟩
  have hs1 := ho.size
  simp only [World.size_alloc] at hs1
  have hb1 := b1.same (same_only ho (by omega) (by simp))
  have c0 : w1.cell? ⟨w.heap.size, 0, none⟩ = some (.slice A n c) := hb1.cells 0
  have c1 : w1.cell? ⟨w.heap.size, 1, none⟩ = some (.slice C m d) := hb1.cells 1
  have HC := Lib.hid (H1.out.cl.same (same_only ho (by omega) (by simp; omega)))
  have HO1 := Lib.hid (HO0.out.trans (ho.mono (Nat.le_refl _) hle.2))
  clear ho hb1 b1 HO0 H1
  go_wp2_with fail
  refine (markStringS_any mid hi m d K C _ w1 HC.out (by omega) (by omega) (by omega)).mono ?_
  rintro e w2 ⟨rfl, ho2, _⟩
  have HO2 := Lib.hid (HO1.out.trans (ho2.mono hle.1 (Nat.le_refl _)))
  clear ho2
  go_wp2_with fail
  go_ret
  exact ⟨⟨K + m, rfl, by omega⟩, HO2.out⟩

set_option maxHeartbeats 700000 in
theorem markStats_any (lo hi mid n c m d k : Nat) (A C : Option Addr) (gs : List Hd) (ts : List Int) (xss : List (List Int)) (w : World) (h : OwSta lo hi w A C n c m d mid gs ts xss) (hhi : hi ≤ w.heap.size) (hn : n ≤ 1048576) (hm : m ≤ 1048576) (hb : totI xss ≤ 1048576) (hk : k ≤ 16777216) :
    Calls Try.prog 21 #[.agg #[.slice A n c, .slice C m d], .int .i64 (k : Nat)] w fun e w' => (∃ K : Nat, e = .returned (.int .i64 (K : Nat)) ∧ K ≤ k + n + totI xss) ∧ Only lo hi w w' := by
  have hle := h.le
  have b1 : Bx (w.alloc (.cells #[.slice A n c, .slice C m d] 35)) w.heap.size 35 #[.slice A n c, .slice C m d] := Bx.new _ _ _
  have HO0 : Hid (Only lo hi w (w.alloc (.cells #[.slice A n c, .slice C m d] 35))) := Only.of_below (below_alloc1 _) (Nat.le_refl _)
  have H1 := Lib.hid (h.same (same_alloc (.cells #[.slice A n c, .slice C m d] 35) hhi))
  have HT := Lib.hid (tot_iss xss)
  clear h
  go_enter Try.func21, Try.ntmps21
  go_wp2_with fail
  refine (markIntS_any lo n c k A _ _ H1.out.tot.own (by omega) (by omega)).mono ?_
  rintro e w1 ⟨rfl, o, g, z⟩
  have ho := Ow.only H1.out.tot g
  have hs1 := ho.size
  simp only [World.size_alloc] at hs1
  have hb1 := b1.same (same_only ho (by omega) (by simp))
  have c0 : w1.cell? ⟨w.heap.size, 0, none⟩ = some (.slice A n c) := hb1.cells 0
  have c1 : w1.cell? ⟨w.heap.size, 1, none⟩ = some (.slice C m d) := hb1.cells 1
  have HC := Lib.hid (H1.out.cel.same (same_only ho (by omega) (by simp; omega)))
  have HO1 := Lib.hid (HO0.out.trans (ho.mono (Nat.le_refl _) hle.2))
  clear ho hb1 b1 HO0 H1 o g z
  obtain ⟨K, hK⟩ : ∃ K, k + n = K := ⟨_, rfl⟩
  rw [hK]
  have hKb : K ≤ 1099511627776 - 1048576 := by omega
  have HK := Lib.hid hK
  clear hK
  go_wp2_with fail
  refine (markIntSS_any mid hi m d K C _ _ w1 HC.out hm (by rw [HT.out]; exact hb) hKb).mono ?_
  rintro e w2 ⟨rfl, _, ho2⟩
  have HO2 := Lib.hid (HO1.out.trans (ho2.mono hle.1 (Nat.le_refl _)))
  clear ho2
  go_wp2_with fail
  go_ret
  exact ⟨⟨K + tot (iss xss), rfl, by have := HK.out; have := HT.out; omega⟩, HO2.out⟩

end Go.Proofs.Ytchkmcikpamdeaa

/- The contracts of package world, continued: clones, New, Int, Stop, Out, In, Events. -/
import Derived.Test.YtcglkefaopgjeaaGreatDoorC0
import Derived.Lib.SliceRun
namespace Go.Proofs.YtcglkefaopgjeaaGreatDoor
set_option linter.unusedSimpArgs false
set_option linter.unusedVariables false
open Go.RowKit

def Cloned (w : World) (t : TypeId) (size m : Nat) (news : List Value) (e : Ending) (w' : World) : Prop :=
  ∃ v', e = .returned v' ∧ w'.ownsRow w.heap.size t size v' m news ∧ Below w.heap.size w w'

theorem info_u16 : (Tryz.prog.info? 22).map (fun i => (i.zero, i.size, i.bytes)) = some (some (.int .u16 0), 1, 2) := by kernel_rfl
theorem add_block (a : Addr) (j : Nat) : (a.add j).block = a.block := by unfold Addr.add; split <;> rfl

set_option maxHeartbeats 800000 in
theorem cloneW_any (w : World) (ad : Addr) (m c : Nat) (news : List Value) (hl : news.length = m * 1) (hnews : ∀ j u, news[j]? = some u → w.cell? (ad.add j) = some u) (h1 : ∀ u ∈ news, u.oneCell' = true) (hm : m ≤ 70368744175616) :
    Calls Tryz.prog 97 #[.slice (some ad) m c] w (Cloned w 22 1 m news) := by
  obtain ⟨i0, hi0, hz0, hz1, hz2⟩ := info_parts info_u16
  have HN := Lib.hid hnews
  have H1 := Lib.hid h1
  have HL := Lib.hid hl
  clear hnews h1 hl
  have hq := fun (wx : World) (a : Option Addr) (n1 c1 : Nat) => Lib.run_eql_slice_nil (P := Tryz.prog) wx 84 22 a n1 c1 0 0 Tryz.underlying84
  go_enter Tryz.func97, Tryz.ntmps97
  go_wp2_with (at_builtin; refine wpList_append_own _ rfl _ _ _ rfl w.heap.size 22 i0 _ 1 2 Tryz.underlying84 hi0 hz0 hz1 hz2 rfl (by omega) _ 0 [] rfl ?c1 ad m c news rfl HL.out ?c2 H1.out ?c3 ?c4 ?c5 ?c6)
  case c1 => exact World.ownsRow_made w #[] 0 (Nat.le_refl _) (by unfold maxLen; omega) rfl
  case c2 =>
    intro j u h
    have := HN.out j u h
    exact (World.cell?_of_block (Below.heap_alloc w _ _ (World.block_lt_of_cell? w _ this))).trans this
  case c3 => unfold maxLen; omega
  case c4 => omega
  case c5 => simp
  case c6 =>
    intro v' w1 hown hg _
    have HO := Lib.hid hown
    have HG := Lib.hid (Below.grown ((Below.refl w.heap.size w).alloc (Nat.le_refl _) _) hg (by simp) (by intro k hk; simp [Value.ownBlock] at hk; omega))
    clear hown hg
    go_wp2_with fail
    go_ret
    exact ⟨v', rfl, HO.out, HG.out⟩
set_option maxHeartbeats 800000 in
theorem cloneW_nil (w : World) :
    Calls Tryz.prog 97 #[.slice none 0 0] w fun e w' => e = .returned (.slice none 0 0) ∧ w = w' := by
  have hq := fun (wx : World) (a : Option Addr) (n1 c1 : Nat) => Lib.run_eql_slice_nil (P := Tryz.prog) wx 84 22 a n1 c1 0 0 Tryz.underlying84
  go_enter Tryz.func97, Tryz.ntmps97
  go_wp2_with fail
  go_ret
  exact ⟨rfl, rfl⟩

set_option maxHeartbeats 800000 in
theorem cloneE_any (w : World) (ad : Addr) (m c : Nat) (news : List Value) (hl : news.length = m * 7) (hnews : ∀ j u, news[j]? = some u → w.cell? (ad.add j) = some u) (h1 : ∀ u ∈ news, u.oneCell' = true) (hm : m ≤ 4000) :
    Calls Tryz.prog 79 #[.slice (some ad) m c] w (Cloned w 67 7 m news) := by
  obtain ⟨i0, hi0, hz0, hz1, hz2⟩ := info_parts info_ev
  have HN := Lib.hid hnews
  have H1 := Lib.hid h1
  have HL := Lib.hid hl
  clear hnews h1 hl
  have hq := fun (wx : World) (a : Option Addr) (n1 c1 : Nat) => Lib.run_eql_slice_nil (P := Tryz.prog) wx 64 67 a n1 c1 0 0 Tryz.underlying64
  go_enter Tryz.func79, Tryz.ntmps79
  go_wp2_with (at_builtin; refine wpList_append_own _ rfl _ _ _ rfl w.heap.size 67 i0 _ 7 24 Tryz.underlying64 hi0 hz0 hz1 hz2 rfl (by omega) _ 0 [] rfl ?c1 ad m c news rfl HL.out ?c2 H1.out ?c3 ?c4 ?c5 ?c6)
  case c1 => exact World.ownsRow_made w #[] 0 (Nat.le_refl _) (by unfold maxLen; omega) rfl
  case c2 =>
    intro j u h
    have := HN.out j u h
    exact (World.cell?_of_block (Below.heap_alloc w _ _ (World.block_lt_of_cell? w _ this))).trans this
  case c3 => unfold maxLen; omega
  case c4 => omega
  case c5 => simp
  case c6 =>
    intro v' w1 hown hg _
    have HO := Lib.hid hown
    have HG := Lib.hid (Below.grown ((Below.refl w.heap.size w).alloc (Nat.le_refl _) _) hg (by simp) (by intro k hk; simp [Value.ownBlock] at hk; omega))
    clear hown hg
    go_wp2_with fail
    go_ret
    exact ⟨v', rfl, HO.out, HG.out⟩
set_option maxHeartbeats 800000 in
theorem cloneE_nil (w : World) :
    Calls Tryz.prog 79 #[.slice none 0 0] w fun e w' => e = .returned (.slice none 0 0) ∧ w = w' := by
  have hq := fun (wx : World) (a : Option Addr) (n1 c1 : Nat) => Lib.run_eql_slice_nil (P := Tryz.prog) wx 64 67 a n1 c1 0 0 Tryz.underlying64
  go_enter Tryz.func79, Tryz.ntmps79
  go_wp2_with fail
  go_ret
  exact ⟨rfl, rfl⟩
end Go.Proofs.YtcglkefaopgjeaaGreatDoor

/- Parts of the proof, in one text: YtcglkefaopgjeaaGreatDoorC1 YtcglkefaopgjeaaGreatDoorC2 YtcglkefaopgjeaaGreatDoorC3 YtcglkefaopgjeaaGreatDoorD0 YtcglkefaopgjeaaGreatDoorD1 YtcglkefaopgjeaaGreatDoorD2 YtcglkefaopgjeaaGreatDoorD3. Each part's own remark says what it proves; conditions: those of each theorem. -/
import Derived.Test.YtcglkefaopgjeaaGreatDoorW2
import Derived.Lib.SliceRun

/- The contracts of package world, continued: clones, New, Int, Stop, Out, In, Events. -/
namespace Go.Proofs.YtcglkefaopgjeaaGreatDoor
set_option linter.unusedSimpArgs false
set_option linter.unusedVariables false
open Go.RowKit

def Cloned (w : World) (t : TypeId) (size m : Nat) (news : List Value) (e : Ending) (w' : World) : Prop :=
  ∃ v', e = .returned v' ∧ w'.ownsRow w.heap.size t size v' m news ∧ Below w.heap.size w w'

theorem info_u16 : (Tryz.prog.info? 22).map (fun i => (i.zero, i.size, i.bytes)) = some (some (.int .u16 0), 1, 2) := by kernel_rfl
theorem add_block (a : Addr) (j : Nat) : (a.add j).block = a.block := by unfold Addr.add; split <;> rfl

set_option maxHeartbeats 800000 in
theorem cloneW_any (w : World) (ad : Addr) (m c : Nat) (news : List Value) (hl : news.length = m * 1) (hnews : ∀ j u, news[j]? = some u → w.cell? (ad.add j) = some u) (h1 : ∀ u ∈ news, u.oneCell' = true) (hm : m ≤ 70368744175616) :
    Calls Tryz.prog 97 #[.slice (some ad) m c] w (Cloned w 22 1 m news) := by
  obtain ⟨i0, hi0, hz0, hz1, hz2⟩ := info_parts info_u16
  have HN := Lib.hid hnews
  have H1 := Lib.hid h1
  have HL := Lib.hid hl
  clear hnews h1 hl
  have hq := fun (wx : World) (a : Option Addr) (n1 c1 : Nat) => Lib.run_eql_slice_nil (P := Tryz.prog) wx 84 22 a n1 c1 0 0 Tryz.underlying84
  go_enter Tryz.func97, Tryz.ntmps97
  go_wp2_with (at_builtin; refine wpList_append_own _ rfl _ _ _ rfl w.heap.size 22 i0 _ 1 2 Tryz.underlying84 hi0 hz0 hz1 hz2 rfl (by omega) _ 0 [] rfl ?c1 ad m c news rfl HL.out ?c2 H1.out ?c3 ?c4 ?c5 ?c6)
  case c1 => exact World.ownsRow_made w #[] 0 (Nat.le_refl _) (by unfold maxLen; omega) rfl
  case c2 =>
    intro j u h
    have := HN.out j u h
    exact (World.cell?_of_block (Below.heap_alloc w _ _ (World.block_lt_of_cell? w _ this))).trans this
  case c3 => unfold maxLen; omega
  case c4 => omega
  case c5 => simp
  case c6 =>
    intro v' w1 hown hg _
    have HO := Lib.hid hown
    have HG := Lib.hid (Below.grown ((Below.refl w.heap.size w).alloc (Nat.le_refl _) _) hg (by simp) (by intro k hk; simp [Value.ownBlock] at hk; omega))
    clear hown hg
    go_wp2_with fail
    go_ret
    exact ⟨v', rfl, HO.out, HG.out⟩
set_option maxHeartbeats 800000 in
theorem cloneW_nil (w : World) :
    Calls Tryz.prog 97 #[.slice none 0 0] w fun e w' => e = .returned (.slice none 0 0) ∧ w = w' := by
  have hq := fun (wx : World) (a : Option Addr) (n1 c1 : Nat) => Lib.run_eql_slice_nil (P := Tryz.prog) wx 84 22 a n1 c1 0 0 Tryz.underlying84
  go_enter Tryz.func97, Tryz.ntmps97
  go_wp2_with fail
  go_ret
  exact ⟨rfl, rfl⟩

set_option maxHeartbeats 800000 in
theorem cloneE_any (w : World) (ad : Addr) (m c : Nat) (news : List Value) (hl : news.length = m * 7) (hnews : ∀ j u, news[j]? = some u → w.cell? (ad.add j) = some u) (h1 : ∀ u ∈ news, u.oneCell' = true) (hm : m ≤ 4000) :
    Calls Tryz.prog 79 #[.slice (some ad) m c] w (Cloned w 67 7 m news) := by
  obtain ⟨i0, hi0, hz0, hz1, hz2⟩ := info_parts info_ev
  have HN := Lib.hid hnews
  have H1 := Lib.hid h1
  have HL := Lib.hid hl
  clear hnews h1 hl
  have hq := fun (wx : World) (a : Option Addr) (n1 c1 : Nat) => Lib.run_eql_slice_nil (P := Tryz.prog) wx 64 67 a n1 c1 0 0 Tryz.underlying64
  go_enter Tryz.func79, Tryz.ntmps79
  go_wp2_with (at_builtin; refine wpList_append_own _ rfl _ _ _ rfl w.heap.size 67 i0 _ 7 24 Tryz.underlying64 hi0 hz0 hz1 hz2 rfl (by omega) _ 0 [] rfl ?c1 ad m c news rfl HL.out ?c2 H1.out ?c3 ?c4 ?c5 ?c6)
  case c1 => exact World.ownsRow_made w #[] 0 (Nat.le_refl _) (by unfold maxLen; omega) rfl
  case c2 =>
    intro j u h
    have := HN.out j u h
    exact (World.cell?_of_block (Below.heap_alloc w _ _ (World.block_lt_of_cell? w _ this))).trans this
  case c3 => unfold maxLen; omega
  case c4 => omega
  case c5 => simp
  case c6 =>
    intro v' w1 hown hg _
    have HO := Lib.hid hown
    have HG := Lib.hid (Below.grown ((Below.refl w.heap.size w).alloc (Nat.le_refl _) _) hg (by simp) (by intro k hk; simp [Value.ownBlock] at hk; omega))
    clear hown hg
    go_wp2_with fail
    go_ret
    exact ⟨v', rfl, HO.out, HG.out⟩
set_option maxHeartbeats 800000 in
theorem cloneE_nil (w : World) :
    Calls Tryz.prog 79 #[.slice none 0 0] w fun e w' => e = .returned (.slice none 0 0) ∧ w = w' := by
  have hq := fun (wx : World) (a : Option Addr) (n1 c1 : Nat) => Lib.run_eql_slice_nil (P := Tryz.prog) wx 64 67 a n1 c1 0 0 Tryz.underlying64
  go_enter Tryz.func79, Tryz.ntmps79
  go_wp2_with fail
  go_ret
  exact ⟨rfl, rfl⟩
end Go.Proofs.YtcglkefaopgjeaaGreatDoor

/- The contracts of package world, continued: New, Int, Stop, Out, In, Events. -/
namespace Go.Proofs.YtcglkefaopgjeaaGreatDoor
set_option linter.unusedSimpArgs false
set_option linter.unusedVariables false
open Go.RowKit

theorem WPost.of_at {p : WPhys} {w w' : World} {rs : List Int} {n : Nat} {l : List Ev} (h : WorldAt w' p rs n l) (hf : Fr p.own w w') : WPost p w rs n l w' := ⟨p.lv, h, hf, fun _ hk => Or.inl hk⟩
theorem WPost.after {p : WPhys} {w w1 w2 : World} {rs : List Int} {n : Nat} {l : List Ev} (hf : Fr p.own w w1) (h : WPost p w1 rs n l w2) : WPost p w rs n l w2 := by
  obtain ⟨lv', h1, h2, h3⟩ := h
  exact ⟨lv', h1, hf.trans h2, fun k hk => (h3 k hk).imp id (fun h => Nat.le_trans hf.size h)⟩

def nextV (rs : List Int) (i : Nat) : Int := if i < rs.length then rs.getD i 0 else 0
def nextI (rs : List Int) (i : Nat) : Nat := if i < rs.length then i + 1 else i

theorem next_any (w : World) (p : WPhys) (rs : List Int) (n : Nat) (l : List Ev) (h : WorldAt w p rs n l) :
    Calls Tryz.prog 203 #[.pointer (some ⟨p.wb, 0, none⟩)] w fun e w' => e = .returned (.int .u16 (nextV rs n)) ∧ WorldAt w' p rs (nextI rs n) l ∧ Fr p.own w w' := by
  by_cases hn : n < rs.length
  · refine (next_yes w p rs n l h hn).mono ?_
    rintro e w' ⟨rfl, h1, h2⟩
    rw [nextV, nextI, if_pos hn, if_pos hn]
    exact ⟨rfl, h1, h2⟩
  · refine (next_no w p rs n l h (by omega)).mono ?_
    rintro e w' ⟨rfl, h1⟩
    rw [nextV, nextI, if_neg hn, if_neg hn]
    exact ⟨rfl, h.below h1, Fr.of_below h1⟩

set_option maxHeartbeats 800000 in
theorem note_full (w : World) (p : WPhys) (rs : List Int) (n : Nat) (l : List Ev) (h : WorldAt w p rs n l) (e : Ev) (hl : ¬ l.length < 4000) :
    Calls Tryz.prog 82 #[.pointer (some ⟨p.wb, 0, none⟩), e.val] w fun r w' => r = .returned (.tuple #[]) ∧ WPost p w rs n l w' := by
  have c2 := h.c2
  have lt := h.row.lt
  have hlv : p.lv = .slice none 0 0 ∧ l.length = 0 ∨ ∃ g cap, p.lv = .slice (some ⟨g, 0, none⟩) l.length cap := by
    obtain ⟨_, h2 | ⟨g, cap, cur, hv, hg, _⟩⟩ := h.ev
    · exact Or.inl h2
    · exact Or.inr ⟨g, cap, hv⟩
  have H := Lib.hid h
  clear h
  rcases hlv with ⟨_, h0⟩ | ⟨g, cap, hg⟩
  · omega
  · rw [hg] at c2
    clear hg
    have h4 : ¬ ((l.length : Nat) : Int) < 4000 := by omega
    go_enter Tryz.func82, Tryz.ntmps82
    go_wp2_with fail
    go_end0
    exact ⟨rfl, WPost.of_at (H.out.below (by (repeat (first | exact Below.refl _ _ | assumption | refine Below.setCell ?_ (by simp) _ | refine Below.alloc ?_ (by simp <;> omega) _ | refine Below.drew ?_ | refine Below.drewN ?_ | refine Below.setRow ?_ (by simp <;> omega) _)))) (by (repeat (first | exact Fr.refl _ _ | assumption | refine Fr.alloc ?_ _ | refine Fr.drew ?_ | refine Fr.drewN ?_ | refine Fr.setCell ?_ (by first | exact Or.inl rfl | exact Or.inr rfl | rfl | assumption) _ | refine Fr.setRow ?_ (by first | exact Or.inl rfl | exact Or.inr rfl | rfl | assumption) _)))⟩

theorem note_all (w : World) (p : WPhys) (rs : List Int) (n : Nat) (l : List Ev) (h : WorldAt w p rs n l) (e : Ev) :
    Calls Tryz.prog 82 #[.pointer (some ⟨p.wb, 0, none⟩), e.val] w fun r w' => r = .returned (.tuple #[]) ∧ WPost p w rs n (noteL l e) w' := by
  by_cases hl : l.length < 4000
  · rw [noteL, if_pos hl]
    exact note_any w p rs n l h e hl
  · rw [noteL, if_neg hl]
    exact note_full w p rs n l h e hl

set_option maxHeartbeats 800000 in
theorem stop_any (w : World) (p : WPhys) (rs : List Int) (n : Nat) (l : List Ev) (h : WorldAt w p rs n l) (kind : Int) :
    Calls Tryz.prog 101 #[.pointer (some ⟨p.wb, 0, none⟩), .int .i64 kind] w fun r w' => r = .returned (.tuple #[]) ∧ WPost p w rs n (noteL l ⟨kind, 0, 0, 0, 0, 0, 0⟩) w' := by
  have H := Lib.hid h
  clear h
  go_enter Tryz.func101, Tryz.ntmps101
  go_wp2_with (go_at_call 82; refine (note_all _ _ _ _ _ H.out ⟨kind, 0, 0, 0, 0, 0, 0⟩).mono ?_; rintro e w' ⟨rfl, hq⟩)
  go_end0
  exact ⟨rfl, hq⟩

def endsInt (n a : Int) : Bool := n == 32 || (n == 33 && a / 256 == 76)
def intV (rs : List Int) (i : Nat) (n a : Int) : Int := if endsInt n a then a else nextV rs i
def intI (rs : List Int) (i : Nat) (n a : Int) : Nat := if endsInt n a then i else nextI rs i
def intL (rs : List Int) (i : Nat) (l : List Ev) (n a b c d : Int) : List Ev := noteL l ⟨3, n, intV rs i n a, a, b, c, d⟩

set_option maxHeartbeats 1600000 in
theorem int_any (w : World) (p : WPhys) (rs : List Int) (i : Nat) (l : List Ev) (h : WorldAt w p rs i l) (n a b c d : Int) (hn0 : 0 ≤ n) (hn1 : n ≤ 255) (h0 : 0 ≤ a) (h1 : a ≤ 65535) :
    Calls Tryz.prog 201 #[.pointer (some ⟨p.wb, 0, none⟩), .int .u8 n, .int .u16 a, .int .u16 b, .int .u16 c, .int .u16 d] w fun r w' =>
      r = .returned (.tuple #[.int .u16 (intV rs i n a), .bool (endsInt n a)]) ∧ WPost p w rs (intI rs i n a) (intL rs i l n a b c d) w' := by
  have H := Lib.hid h
  clear h
  by_cases e32 : n = 32
  · have he : endsInt n a = true := by simp [endsInt, e32]
    have HE := Lib.hid he
    clear he
    have n32 : (n == 32) = true := by simp [e32]
    clear e32
    go_enter Tryz.func201, Tryz.ntmps201
    go_wp2_with (go_at_call 82; refine (note_all _ _ _ _ _ H.out ⟨3, n, a, a, b, c, d⟩).mono ?_; rintro e w' ⟨rfl, hq⟩)
    go_ret2
    rw [intV, intI, intL, intV, HE.out]
    exact ⟨rfl, hq⟩
  · have n32 : (n == 32) = false := by simp [e32]
    by_cases e33 : n = 33
    · subst e33
      clear e32
      by_cases e76 : a / 256 = 76
      · have he : endsInt 33 a = true := by simp [endsInt, e76]
        have HE := Lib.hid he
        clear he
        have n76 : (a / 256 == 76) = true := by simp [e76]
        clear e76
        go_enter Tryz.func201, Tryz.ntmps201
        go_wp2_with (first | (go_at_call 86; refine (high_any _ _ h0 h1).mono ?_; rintro e w' ⟨rfl, rfl⟩) | (go_at_call 82; refine (note_all _ _ _ _ _ H.out ⟨3, 33, a, a, b, c, d⟩).mono ?_; rintro e w' ⟨rfl, hq⟩))
        go_ret2
        rw [intV, intI, intL, intV, HE.out]
        exact ⟨rfl, hq⟩
      · have he : endsInt 33 a = false := by simp [endsInt, e76]
        have HE := Lib.hid he
        clear he
        have n76 : (a / 256 == 76) = false := by simp [e76]
        clear e76
        go_enter Tryz.func201, Tryz.ntmps201
        go_wp2_with (first | (go_at_call 86; refine (high_any _ _ h0 h1).mono ?_; rintro e w' ⟨rfl, rfl⟩) | (go_at_call 203; refine (next_any _ _ _ _ _ H.out).mono ?_; rintro e w1 ⟨rfl, hw1, hf1⟩; have H1 := Lib.hid hw1; have F1 := Lib.hid hf1; clear hw1 hf1) | (go_at_call 82; refine (note_all _ _ _ _ _ H1.out ⟨3, 33, _, a, b, c, d⟩).mono ?_; rintro e w' ⟨rfl, hq⟩))
        go_ret2
        rw [intV, intI, intL, intV, HE.out]
        exact ⟨rfl, hq.after F1.out⟩
    · have n33 : (n == 33) = false := by simp [e33]
      have he : endsInt n a = false := by simp [endsInt, e32, e33]
      have HE := Lib.hid he
      clear he e32 e33
      go_enter Tryz.func201, Tryz.ntmps201
      go_wp2_with (first | (go_at_call 203; refine (next_any _ _ _ _ _ H.out).mono ?_; rintro e w1 ⟨rfl, hw1, hf1⟩; have H1 := Lib.hid hw1; have F1 := Lib.hid hf1; clear hw1 hf1) | (go_at_call 82; refine (note_all _ _ _ _ _ H1.out ⟨3, n, _, a, b, c, d⟩).mono ?_; rintro e w' ⟨rfl, hq⟩))
      go_ret2
      rw [intV, intI, intL, intV, HE.out]
      exact ⟨rfl, hq.after F1.out⟩

set_option maxHeartbeats 800000 in
theorem events_any (w : World) (p : WPhys) (rs : List Int) (n : Nat) (l : List Ev) (h : WorldAt w p rs n l) :
    Calls Tryz.prog 30 #[.pointer (some ⟨p.wb, 0, none⟩)] w (Cloned w 67 7 l.length (evCells l)) := by
  have c2 := h.c2
  have hown := h.ev
  have hm := h.most
  have one : ∀ u ∈ evCells l, u.oneCell' = true := by
    intro u hu
    obtain ⟨e, _, he⟩ := List.mem_flatMap.1 hu
    simp only [Ev.cells, List.mem_cons, List.not_mem_nil, or_false] at he
    rcases he with rfl | rfl | rfl | rfl | rfl | rfl | rfl <;> rfl
  have ONE := Lib.hid one
  clear one
  have hlv : p.lv = .slice none 0 0 ∧ l.length = 0 ∨ ∃ g cap, p.lv = .slice (some ⟨g, 0, none⟩) l.length cap := by
    obtain ⟨_, h2 | ⟨g, cap, cur, hv, hg, _⟩⟩ := h.ev
    · exact Or.inl h2
    · exact Or.inr ⟨g, cap, hv⟩
  clear h
  rcases hlv with ⟨hv, h0⟩ | ⟨g, cap, hv⟩
  · rw [hv] at c2
    obtain rfl : l = [] := List.eq_nil_of_length_eq_zero h0
    clear h0 hv hown hm
    go_enter Tryz.func30, Tryz.ntmps30
    go_wp2_with (go_at_call 79; refine (cloneE_nil _).mono ?_; rintro e w' ⟨rfl, rfl⟩)
    go_ret
    exact ⟨_, rfl, World.ownsRow_nil _ _ _ _, Below.refl _ _⟩
  · have hc := hown.cells (g := g) (by rw [hv]; rfl)
    have hl := hown.1
    have HC := Lib.hid hc
    have HL := Lib.hid hl
    rw [hv] at c2
    clear hc hl hown hv
    go_enter Tryz.func30, Tryz.ntmps30
    go_wp2_with (go_at_call 79; refine (cloneE_any _ ⟨g, 0, none⟩ _ _ (evCells l) HL.out HC.out ONE.out hm).mono ?_; rintro e w1 ⟨v', rfl, hq1, hq2⟩; have H1 := Lib.hid hq1; have H2 := Lib.hid hq2; clear hq1 hq2)
    go_ret
    exact ⟨v', rfl, H1.out, H2.out⟩
end Go.Proofs.YtcglkefaopgjeaaGreatDoor

/- world.New; the machine's words; core.New. -/
namespace Go.Proofs.YtcglkefaopgjeaaGreatDoor
set_option linter.unusedSimpArgs false
set_option linter.unusedVariables false
open Go.RowKit

def WNew (w : World) (rs : List Int) (e : Ending) (w' : World) : Prop :=
  ∃ p : WPhys, e = .returned (.pointer (some ⟨p.wb, 0, none⟩)) ∧ WorldAt w' p rs 0 [] ∧ Below w.heap.size w w' ∧ w.heap.size ≤ p.wb ∧ p.lv = .slice none 0 0 ∧ (∀ g, p.ra = some g → w.heap.size ≤ g) ∧ p.base = w'.heap.size

theorem wnew_of {w w1 : World} {rs : List Int} {v' : Value} (hown : w1.ownsRow w.heap.size 22 1 v' rs.length (rs.map (Value.int .u16))) (hb : Below w.heap.size w w1) (hbig : rs.length ≤ 70368744175616) :
    WNew w rs (.returned (.pointer (some ⟨w1.heap.size, 0, none⟩))) (w1.alloc (.cells #[v', .int .i64 0, .slice none 0 0] 133)) := by
  obtain ⟨_, ⟨hv, hn⟩ | ⟨g, cap, cur, hv, hg, hh, _, _, hs, htake⟩⟩ := hown
  · obtain rfl : rs = [] := List.eq_nil_of_length_eq_zero hn
    subst hv
    refine ⟨⟨w1.heap.size, w1.heap.size + 1, none, 0, .slice none 0 0⟩, rfl, ⟨Row.new _ _ _, ?_, ?_, World.ownsRow_nil _ _ _ _, ?_, ?_, Nat.le_refl _, by simp, by simp⟩, hb.alloc hb.size _, hb.size, rfl, ?_, ?_⟩
    · intro j hj; simp at hj
    · intro g hg; simp at hg
    · simp
    · simp
    · intro g hg; simp at hg
    · simp
  · subst hv
    have glt : g < w1.heap.size := (Array.getElem?_eq_some_iff.1 hh).1
    refine ⟨⟨w1.heap.size, w1.heap.size + 1, some g, cap, .slice none 0 0⟩, rfl, ⟨Row.new _ _ _, ?_, ?_, World.ownsRow_nil _ _ _ _, ?_, ?_, Nat.zero_le _, by simp, by omega⟩, hb.alloc hb.size _, hb.size, rfl, ?_, ?_⟩
    · intro j hj
      refine ⟨g, rfl, ?_⟩
      have r : Row w1 g cur _ := hh
      rw [(r.alloc _).cell]
      have e : cur[j]? = (cur.toList.take (rs.length * 1))[j]? := by
        rw [List.getElem?_take, if_pos (by omega)]; simp
      rw [e, htake]
      simp [List.getD, hj]
    · intro k hk
      simp only [Option.some.injEq] at hk
      subst hk
      exact ⟨by show g < w1.heap.size + 1; omega, by show g ≠ w1.heap.size; omega⟩
    · simp
    · simp
    · intro k hk
      simp only [Option.some.injEq] at hk
      subst hk
      exact hg
    · simp

theorem own_form {w : World} {base : Nat} {t : TypeId} {size : Nat} {v : Value} {n : Nat} {xs : List Value} (h : w.ownsRow base t size v n xs) : v = .slice none 0 0 ∨ ∃ g cap, v = .slice (some ⟨g, 0, none⟩) n cap := by
  obtain ⟨_, h2 | ⟨g, cap, cur, hv, _⟩⟩ := h
  · exact Or.inl h2.1
  · exact Or.inr ⟨g, cap, hv⟩
theorem one_map (rs : List Int) : ∀ u ∈ rs.map (Value.int .u16), u.oneCell' = true := by
  intro u hu
  obtain ⟨x, _, rfl⟩ := List.mem_map.1 hu
  rfl

set_option maxHeartbeats 800000 in
theorem worldNew_some (w : World) (ad : Addr) (c : Nat) (rs : List Int) (hnews : ∀ j u, (rs.map (Value.int .u16))[j]? = some u → w.cell? (ad.add j) = some u) (hbig : rs.length ≤ 70368744175616) :
    Calls Tryz.prog 53 #[.slice (some ad) rs.length c] w (WNew w rs) := by
  have H := Lib.hid hnews
  have ONE := Lib.hid (one_map rs)
  have HL := Lib.hid (show (rs.map (Value.int .u16)).length = rs.length * 1 by simp)
  clear hnews
  go_enter Tryz.func53, Tryz.ntmps53
  go_wp2_with (go_at_call 97; refine (cloneW_any _ ad _ _ (rs.map (Value.int .u16)) HL.out H.out ONE.out hbig).mono ?_; rintro e w1 ⟨v', rfl, hq1, hq2⟩; have H1 := Lib.hid hq1; have H2 := Lib.hid hq2; clear hq1 hq2; rcases own_form H1.out with rfl | ⟨g, cap, rfl⟩)
  all_goals
    go_ret
    exact wnew_of H1.out H2.out hbig
set_option maxHeartbeats 800000 in
theorem worldNew_nil (w : World) :
    Calls Tryz.prog 53 #[.slice none 0 0] w (WNew w []) := by
  go_enter Tryz.func53, Tryz.ntmps53
  go_wp2_with (go_at_call 97; refine (cloneW_nil _).mono ?_; rintro e w' ⟨rfl, rfl⟩)
  go_ret
  exact wnew_of (rs := []) (World.ownsRow_nil _ _ _ _) (Below.refl _ _) (by simp)

/-- A machine's state. -/
structure Mach where
  r : Regs
  base : Int
  size : Int
  state : Int
  mem : Nat → Int
  tag : Nat → Int
  rs : List Int
  at_ : Nat
  ev : List Ev

/-- Where a machine lies. -/
structure Phys where
  b : Nat
  mb : Nat
  bb : Nat
  tb : Nat
  wb : Nat
  base : Nat
  ra : Option Nat
  rcap : Nat

abbrev Phys.wp (C : Phys) (lv : Value) : WPhys := ⟨C.wb, C.base, C.ra, C.rcap, lv⟩
def mcells (C : Phys) (m : Mach) : Array Value := m.r.cells ++ #[.pointer (some ⟨C.mb, 0, none⟩), .pointer (some ⟨C.wb, 0, none⟩), .int .u32 m.base, .int .u32 m.size, .int .i64 m.state]
def Phys.own (C : Phys) (lv : Value) : Nat → Prop := fun k => k = C.b ∨ k = C.bb ∨ k = C.tb ∨ k = C.wb ∨ lv.ownBlock = some k

def V.wf (x : V) : Prop := 0 ≤ x.v ∧ x.v ≤ 65535
structure Regs.wf (r : Regs) : Prop where
  g0 : r.g0.wf
  g1 : r.g1.wf
  g2 : r.g2.wf
  g3 : r.g3.wf
  g4 : r.g4.wf
  g5 : r.g5.wf
  g6 : r.g6.wf
  g7 : r.g7.wf
  s0 : r.s0.wf
  s1 : r.s1.wf
  s2 : r.s2.wf
  s3 : r.s3.wf
  ip : 0 ≤ r.ip ∧ r.ip ≤ 65535
  f : 0 ≤ r.f ∧ r.f ≤ 65535

structure Mach.wf (m : Mach) : Prop where
  r : m.r.wf
  base : 0 ≤ m.base ∧ m.base ≤ 1048560
  size : 0 ≤ m.size ∧ m.size ≤ 1048576

structure Own (w : World) (C : Phys) (lv : Value) (m : Mach) : Prop where
  row : Row w C.b (mcells C m) 44
  mem : MemAt w C.mb C.bb C.tb m.mem m.tag
  wor : WorldAt w (C.wp lv) m.rs m.at_ m.ev
  wf : m.wf
  n1 : C.b ≠ C.mb
  n2 : C.b ≠ C.bb
  n3 : C.b ≠ C.tb
  n4 : C.b ≠ C.wb
  n5 : C.mb ≠ C.wb
  n6 : C.bb ≠ C.wb
  n7 : C.tb ≠ C.wb
  l1 : C.b < C.base
  l2 : C.mb < C.base
  l3 : C.bb < C.base
  l4 : C.tb < C.base
  ra : ∀ g, C.ra = some g → g ≠ C.b ∧ g ≠ C.mb ∧ g ≠ C.bb ∧ g ≠ C.tb

def After (C : Phys) (lv : Value) (w : World) (m' : Mach) (w' : World) : Prop :=
  ∃ lv', Own w' C lv' m' ∧ Fr (C.own lv) w w' ∧ (∀ k, lv'.ownBlock = some k → lv.ownBlock = some k ∨ w.heap.size ≤ k)
end Go.Proofs.YtcglkefaopgjeaaGreatDoor

/- What a machine owns, and how it is handed on; core.New, State, Stuck, End. -/
namespace Go.Proofs.YtcglkefaopgjeaaGreatDoor
set_option linter.unusedSimpArgs false
set_option linter.unusedVariables false
open Go.RowKit

@[go_sem] theorem mcell0 (C : Phys) (m : Mach) : (mcells C m)[0]? = some (.int .u16 m.r.g0.v) := rfl
@[go_sem] theorem mcell1 (C : Phys) (m : Mach) : (mcells C m)[1]? = some (.bool m.r.g0.t) := rfl
@[go_sem] theorem mcell2 (C : Phys) (m : Mach) : (mcells C m)[2]? = some (.int .u16 m.r.g1.v) := rfl
@[go_sem] theorem mcell3 (C : Phys) (m : Mach) : (mcells C m)[3]? = some (.bool m.r.g1.t) := rfl
@[go_sem] theorem mcell4 (C : Phys) (m : Mach) : (mcells C m)[4]? = some (.int .u16 m.r.g2.v) := rfl
@[go_sem] theorem mcell5 (C : Phys) (m : Mach) : (mcells C m)[5]? = some (.bool m.r.g2.t) := rfl
@[go_sem] theorem mcell6 (C : Phys) (m : Mach) : (mcells C m)[6]? = some (.int .u16 m.r.g3.v) := rfl
@[go_sem] theorem mcell7 (C : Phys) (m : Mach) : (mcells C m)[7]? = some (.bool m.r.g3.t) := rfl
@[go_sem] theorem mcell8 (C : Phys) (m : Mach) : (mcells C m)[8]? = some (.int .u16 m.r.g4.v) := rfl
@[go_sem] theorem mcell9 (C : Phys) (m : Mach) : (mcells C m)[9]? = some (.bool m.r.g4.t) := rfl
@[go_sem] theorem mcell10 (C : Phys) (m : Mach) : (mcells C m)[10]? = some (.int .u16 m.r.g5.v) := rfl
@[go_sem] theorem mcell11 (C : Phys) (m : Mach) : (mcells C m)[11]? = some (.bool m.r.g5.t) := rfl
@[go_sem] theorem mcell12 (C : Phys) (m : Mach) : (mcells C m)[12]? = some (.int .u16 m.r.g6.v) := rfl
@[go_sem] theorem mcell13 (C : Phys) (m : Mach) : (mcells C m)[13]? = some (.bool m.r.g6.t) := rfl
@[go_sem] theorem mcell14 (C : Phys) (m : Mach) : (mcells C m)[14]? = some (.int .u16 m.r.g7.v) := rfl
@[go_sem] theorem mcell15 (C : Phys) (m : Mach) : (mcells C m)[15]? = some (.bool m.r.g7.t) := rfl
@[go_sem] theorem mcell16 (C : Phys) (m : Mach) : (mcells C m)[16]? = some (.int .u16 m.r.s0.v) := rfl
@[go_sem] theorem mcell17 (C : Phys) (m : Mach) : (mcells C m)[17]? = some (.bool m.r.s0.t) := rfl
@[go_sem] theorem mcell18 (C : Phys) (m : Mach) : (mcells C m)[18]? = some (.int .u16 m.r.s1.v) := rfl
@[go_sem] theorem mcell19 (C : Phys) (m : Mach) : (mcells C m)[19]? = some (.bool m.r.s1.t) := rfl
@[go_sem] theorem mcell20 (C : Phys) (m : Mach) : (mcells C m)[20]? = some (.int .u16 m.r.s2.v) := rfl
@[go_sem] theorem mcell21 (C : Phys) (m : Mach) : (mcells C m)[21]? = some (.bool m.r.s2.t) := rfl
@[go_sem] theorem mcell22 (C : Phys) (m : Mach) : (mcells C m)[22]? = some (.int .u16 m.r.s3.v) := rfl
@[go_sem] theorem mcell23 (C : Phys) (m : Mach) : (mcells C m)[23]? = some (.bool m.r.s3.t) := rfl
@[go_sem] theorem mcell24 (C : Phys) (m : Mach) : (mcells C m)[24]? = some (.int .u16 m.r.ip) := rfl
@[go_sem] theorem mcell25 (C : Phys) (m : Mach) : (mcells C m)[25]? = some (.int .u16 m.r.f) := rfl
@[go_sem] theorem mcell26 (C : Phys) (m : Mach) : (mcells C m)[26]? = some (.pointer (some ⟨C.mb, 0, none⟩)) := rfl
@[go_sem] theorem mcell27 (C : Phys) (m : Mach) : (mcells C m)[27]? = some (.pointer (some ⟨C.wb, 0, none⟩)) := rfl
@[go_sem] theorem mcell28 (C : Phys) (m : Mach) : (mcells C m)[28]? = some (.int .u32 m.base) := rfl
@[go_sem] theorem mcell29 (C : Phys) (m : Mach) : (mcells C m)[29]? = some (.int .u32 m.size) := rfl
@[go_sem] theorem mcell30 (C : Phys) (m : Mach) : (mcells C m)[30]? = some (.int .i64 m.state) := rfl
theorem mset24 (C : Phys) (m : Mach) (x : Int) : (mcells C m).setIfInBounds 24 (.int .u16 x) = mcells C { m with r := { m.r with ip := x } } := rfl
theorem mset25 (C : Phys) (m : Mach) (x : Int) : (mcells C m).setIfInBounds 25 (.int .u16 x) = mcells C { m with r := { m.r with f := x } } := rfl
theorem mset30 (C : Phys) (m : Mach) (x : Int) : (mcells C m).setIfInBounds 30 (.int .i64 x) = mcells C { m with state := x } := rfl
@[go_sem] theorem msize (C : Phys) (m : Mach) : (mcells C m).size = 31 := rfl

theorem Own.lt {w : World} {C : Phys} {lv : Value} {m : Mach} (h : Own w C lv m) : C.base ≤ w.heap.size := h.wor.baseB
theorem Own.lvlt {w : World} {C : Phys} {lv : Value} {m : Mach} (h : Own w C lv m) {k : Nat} (hk : lv.ownBlock = some k) : C.base ≤ k ∧ k < w.heap.size := h.wor.ev.lt k hk
theorem Own.fresh {w : World} {C : Phys} {lv : Value} {m : Mach} (h : Own w C lv m) {k : Nat} (hk : w.heap.size ≤ k) : ¬ C.own lv k := by
  have := h.lt
  have := h.l1
  have := h.l3
  have := h.l4
  have := h.wor.wbB
  rintro (h | h | h | h | hb)
  · omega
  · omega
  · omega
  · have : C.wb < C.base := ‹_›; omega
  · have := h.lvlt hb; omega

/-- What turns no block of a machine's keeps it. -/
theorem Own.kept {w w' : World} {C : Phys} {lv : Value} {m : Mach} (h : Own w C lv m) {own : Nat → Prop} (hf : Fr own w w')
    (hb : ¬ own C.b) (hmb : ¬ own C.mb) (hbb : ¬ own C.bb) (htb : ¬ own C.tb) (hwb : ¬ own C.wb) (hra : ∀ g, C.ra = some g → ¬ own g) (hlv : ∀ g, lv.ownBlock = some g → ¬ own g) : Own w' C lv m :=
  ⟨hf.row h.row hb, ⟨hf.row h.mem.r hmb, hf.row h.mem.b hbb, hf.row h.mem.t htb, h.mem.ne1, h.mem.ne2, h.mem.ne3, h.mem.wf⟩, h.wor.kept hf hwb hra hlv, h.wf, h.n1, h.n2, h.n3, h.n4, h.n5, h.n6, h.n7, h.l1, h.l2, h.l3, h.l4, h.ra⟩
theorem Own.below {w w' : World} {C : Phys} {lv : Value} {m : Mach} (h : Own w C lv m) (hb : Below w.heap.size w w') : Own w' C lv m :=
  h.kept (own := fun _ => False) (Fr.of_below hb) id id id id id (fun _ _ => id) (fun _ _ => id)
theorem Own.alloc {w : World} {C : Phys} {lv : Value} {m : Mach} (h : Own w C lv m) (o : Obj) : Own (w.alloc o) C lv m := h.below ((Below.refl _ _).alloc (Nat.le_refl _) _)
theorem Own.drew {w : World} {C : Phys} {lv : Value} {m : Mach} (h : Own w C lv m) : Own w.drew C lv m := h.below (Below.refl _ _).drew
theorem Own.drewN {w : World} {C : Phys} {lv : Value} {m : Mach} {n : Nat} (h : Own w C lv m) : Own (w.drewN n) C lv m := h.below (Below.drewN (Below.refl _ _))

/-- The machine's own row is another one. -/
theorem Own.setM {w w' : World} {C : Phys} {lv : Value} {m m' : Mach} (h : Own w C lv m) (hf : Fr (fun k => k = C.b) w w') (hr : Row w' C.b (mcells C m') 44)
    (e1 : m'.mem = m.mem) (e2 : m'.tag = m.tag) (e3 : m'.rs = m.rs) (e4 : m'.at_ = m.at_) (e5 : m'.ev = m.ev) (hw : m'.wf) : Own w' C lv m' := by
  have hb := h.l1
  refine ⟨hr, ?_, ?_, hw, h.n1, h.n2, h.n3, h.n4, h.n5, h.n6, h.n7, h.l1, h.l2, h.l3, h.l4, h.ra⟩
  · rw [e1, e2]
    exact ⟨hf.row h.mem.r (Ne.symm h.n1), hf.row h.mem.b (Ne.symm h.n2), hf.row h.mem.t (Ne.symm h.n3), h.mem.ne1, h.mem.ne2, h.mem.ne3, h.mem.wf⟩
  · rw [e3, e4, e5]
    refine h.wor.kept hf (Ne.symm h.n4) (fun g hg => (h.ra g hg).1) (fun g hg => ?_)
    have : C.base ≤ g := (h.lvlt hg).1
    omega
theorem Own.setState {w : World} {C : Phys} {lv : Value} {m : Mach} (h : Own w C lv m) (x : Int) : Own (w.setCell ⟨C.b, 30, none⟩ (.int .i64 x)) C lv { m with state := x } :=
  h.setM ((Fr.refl (fun k => k = C.b) w).setCell (p := ⟨C.b, 30, none⟩) rfl _) (mset30 C m x ▸ h.row.setCell 30 _) rfl rfl rfl rfl rfl ⟨h.wf.r, h.wf.base, h.wf.size⟩
theorem Own.setIP {w : World} {C : Phys} {lv : Value} {m : Mach} (h : Own w C lv m) (x : Int) (h0 : 0 ≤ x) (h1 : x ≤ 65535) : Own (w.setCell ⟨C.b, 24, none⟩ (.int .u16 x)) C lv { m with r := { m.r with ip := x } } :=
  h.setM ((Fr.refl (fun k => k = C.b) w).setCell (p := ⟨C.b, 24, none⟩) rfl _) (mset24 C m x ▸ h.row.setCell 24 _) rfl rfl rfl rfl rfl ⟨{ h.wf.r with ip := ⟨h0, h1⟩ }, h.wf.base, h.wf.size⟩
theorem Own.setFl {w : World} {C : Phys} {lv : Value} {m : Mach} (h : Own w C lv m) (x : Int) (h0 : 0 ≤ x) (h1 : x ≤ 65535) : Own (w.setCell ⟨C.b, 25, none⟩ (.int .u16 x)) C lv { m with r := { m.r with f := x } } :=
  h.setM ((Fr.refl (fun k => k = C.b) w).setCell (p := ⟨C.b, 25, none⟩) rfl _) (mset25 C m x ▸ h.row.setCell 25 _) rfl rfl rfl rfl rfl ⟨{ h.wf.r with f := ⟨h0, h1⟩ }, h.wf.base, h.wf.size⟩

theorem After.of_own {C : Phys} {lv : Value} {w w' : World} {m : Mach} (h : Own w' C lv m) (hf : Fr (C.own lv) w w') : After C lv w m w' := ⟨lv, h, hf, fun _ hk => Or.inl hk⟩
theorem After.pre {C : Phys} {lv lv1 : Value} {w w1 w2 : World} {m : Mach} (hf : Fr (C.own lv) w w1) (hk : ∀ k, lv1.ownBlock = some k → lv.ownBlock = some k ∨ w.heap.size ≤ k) (h : After C lv1 w1 m w2) : After C lv w m w2 := by
  obtain ⟨lv2, h1, h2, h3⟩ := h
  refine ⟨lv2, h1, ⟨h2.os.trans hf.os, h2.tape.trans hf.tape, h2.output.trans hf.output, Nat.le_trans hf.size h2.size, ?_⟩, ?_⟩
  · intro k hk1 ho
    refine (h2.block k (Nat.lt_of_lt_of_le hk1 hf.size) ?_).trans (hf.block k hk1 ho)
    rintro (h | h | h | h | h)
    · exact ho (Or.inl h)
    · exact ho (Or.inr (Or.inl h))
    · exact ho (Or.inr (Or.inr (Or.inl h)))
    · exact ho (Or.inr (Or.inr (Or.inr (Or.inl h))))
    · rcases hk k h with h | h
      · exact ho (Or.inr (Or.inr (Or.inr (Or.inr h))))
      · omega
  · intro k hk2
    rcases h3 k hk2 with h | h
    · exact hk k h
    · exact Or.inr (Nat.le_trans hf.size h)
theorem After.post {C : Phys} {lv : Value} {w w1 w2 : World} {m : Mach} (h : After C lv w m w1) (hb : Below w1.heap.size w1 w2) : After C lv w m w2 := by
  obtain ⟨lv1, h1, h2, h3⟩ := h
  exact ⟨lv1, h1.below hb, h2.trans (Fr.of_below hb), h3⟩

/-- A box of the caller's own beside a machine. -/
structure Box (C : Phys) (lv : Value) (w : World) (k : Nat) (cs : Array Value) (t : TypeId) : Prop where
  row : Row w k cs t
  no : ¬ C.own lv k
theorem Box.new {w : World} {C : Phys} {lv : Value} {m : Mach} (h : Own w C lv m) (cs : Array Value) (t : TypeId) : Box C lv (w.alloc (.cells cs t)) w.heap.size cs t := ⟨Row.new _ _ _, h.fresh (Nat.le_refl _)⟩
theorem Box.alloc {w : World} {C : Phys} {lv : Value} {k : Nat} {cs : Array Value} {t : TypeId} (h : Box C lv w k cs t) (o : Obj) : Box C lv (w.alloc o) k cs t := ⟨h.row.alloc _, h.no⟩
theorem Box.drew {w : World} {C : Phys} {lv : Value} {k : Nat} {cs : Array Value} {t : TypeId} (h : Box C lv w k cs t) : Box C lv w.drew k cs t := ⟨h.row.drew, h.no⟩
theorem Box.below {w w' : World} {C : Phys} {lv : Value} {k : Nat} {cs : Array Value} {t : TypeId} (h : Box C lv w k cs t) (hb : Below w.heap.size w w') : Box C lv w' k cs t := ⟨Below.row hb h.row h.row.lt, h.no⟩
theorem Box.step {w w' : World} {C : Phys} {lv lv' : Value} {k : Nat} {cs : Array Value} {t : TypeId} (h : Box C lv w k cs t) (hf : Fr (C.own lv) w w') (hk : ∀ k, lv'.ownBlock = some k → lv.ownBlock = some k ∨ w.heap.size ≤ k) : Box C lv' w' k cs t := by
  refine ⟨hf.row h.row h.no, ?_⟩
  rintro (e | e | e | e | e)
  · exact h.no (Or.inl e)
  · exact h.no (Or.inr (Or.inl e))
  · exact h.no (Or.inr (Or.inr (Or.inl e)))
  · exact h.no (Or.inr (Or.inr (Or.inr (Or.inl e))))
  · rcases hk k e with e | e
    · exact h.no (Or.inr (Or.inr (Or.inr (Or.inr e))))
    · have := h.row.lt; omega

def Mach.stuck (m : Mach) : Mach := if m.state = 0 then { m with state := 2 } else m

set_option maxHeartbeats 800000 in
theorem stuck_any (w : World) (C : Phys) (lv : Value) (m : Mach) (h : Own w C lv m) :
    Calls Tryz.prog 38 #[.pointer (some ⟨C.b, 0, none⟩)] w fun e w' => e = .returned (.tuple #[]) ∧ After C lv w m.stuck w' := by
  have hc := h.row.cell
  have f30 := h.row.frozen 30
  have H := Lib.hid h
  clear h
  by_cases h0 : m.state = 0
  · have hb : (m.state == 0) = true := by simp [h0]
    have H0 := Lib.hid h0
    clear h0
    go_enter Tryz.func38, Tryz.ntmps38
    go_wp2
    go_end0
    rw [Mach.stuck, if_pos H0.out]
    exact ⟨rfl, After.of_own (H.out.setState 2) ((Fr.refl _ _).setCell (Or.inl rfl) _)⟩
  · have hb : (m.state == 0) = false := by simp [h0]
    have H0 := Lib.hid h0
    clear h0
    go_enter Tryz.func38, Tryz.ntmps38
    go_wp2
    go_end0
    rw [Mach.stuck, if_neg H0.out]
    exact ⟨rfl, After.of_own H.out (Fr.refl _ _)⟩

set_option maxHeartbeats 800000 in
theorem state_any (w : World) (C : Phys) (lv : Value) (m : Mach) (h : Own w C lv m) :
    Calls Tryz.prog 19 #[.pointer (some ⟨C.b, 0, none⟩)] w fun e w' => e = .returned (.int .i64 m.state) ∧ w = w' := by
  have hc := h.row.cell
  clear h
  go_enter Tryz.func19, Tryz.ntmps19
  go_wp2
  go_ret
  exact ⟨rfl, rfl⟩
end Go.Proofs.YtcglkefaopgjeaaGreatDoor

/- Rows of registers are loaded and stored at one stroke. -/
namespace Go.Proofs.YtcglkefaopgjeaaGreatDoor
set_option linter.unusedSimpArgs false
set_option linter.unusedVariables false
open Go.RowKit

def rowRegs (c : Array Value) : Option Value := if 26 ≤ c.size then some (.agg (c.extract 0 26)) else none
@[go_sem] theorem rowRegs_regs (r : Regs) : rowRegs r.cells = some r.val := by
  have h : r.cells.extract 0 26 = r.cells := by
    have := Array.extract_size (xs := r.cells)
    rwa [Regs.size_cells] at this
  unfold rowRegs
  rw [if_pos (by rw [Regs.size_cells]; decide), h]
@[go_sem] theorem rowRegs_mcells (C : Phys) (m : Mach) : rowRegs (mcells C m) = some m.r.val := by
  have h : (mcells C m).extract 0 26 = m.r.cells := by
    apply Array.ext'
    rw [Array.toList_extract, List.extract_eq_take_drop, mcells, Array.toList_append, List.drop_zero, Nat.sub_zero]
    exact List.take_left' (by rw [Array.length_toList, Regs.size_cells])
  unfold rowRegs
  rw [if_pos (by rw [msize]; decide), h]
theorem modify_congr (h : Array Obj) (g : Nat) (f f' : Obj → Obj) (o : Obj) (hg : h[g]? = some o) (he : f o = f' o) : h.modify g f = h.modify g f' := by
  apply Array.ext_getElem?
  intro k
  rw [Array.getElem?_modify, Array.getElem?_modify]
  by_cases hk : g = k
  · subst hk; rw [if_pos rfl, if_pos rfl, hg, Option.map_some, Option.map_some, he]
  · rw [if_neg hk, if_neg hk]
def regsIn (w : World) (g : Nat) : Option Value := match w.heap[g]? with | some (.cells c _ _) => rowRegs c | _ => none
def stOk (w : World) (g : Nat) : Bool := match w.heap[g]? with | some (.cells c _ (0, 0)) => decide (26 ≤ c.size) | _ => false
/-- The registers that begin a row are others. -/
def putR (w : World) (g : Nat) (r : Regs) : World := { w with heap := w.heap.modify g fun | .cells c e fr => .cells (r.cells ++ c.extract 26 c.size) e fr | o => o }

def loadRegs (x : Value) : Sem Value := Instr.loadAt 28 x
def storeRegs (x v : Value) : Sem Unit := Instr.storeAt 28 x v
@[go_sem ↓] theorem loadAt_regs (x : Value) : Instr.loadAt 28 x = loadRegs x := rfl
@[go_sem ↓] theorem storeAt_regs (x v : Value) : Instr.storeAt 28 x v = storeRegs x v := rfl

theorem regsIn_row {w : World} {g : Nat} {cs : Array Value} {t : TypeId} (h : Row w g cs t) : regsIn w g = rowRegs cs := by
  unfold regsIn; rw [show w.heap[g]? = _ from h]
theorem stOk_row {w : World} {g : Nat} {cs : Array Value} {t : TypeId} (h : Row w g cs t) (hs : 26 ≤ cs.size) : stOk w g = true := by
  unfold stOk; rw [show w.heap[g]? = _ from h]; simpa using hs

theorem run_loadRegs (w : World) (g : Nat) (v : Value) (h : regsIn w g = some v) : (loadRegs (.pointer (some ⟨g, 0, none⟩))).run Tryz.prog w = .ok v w := by
  unfold regsIn at h
  split at h
  · rename_i c e fr hg
    unfold rowRegs at h
    split at h
    · rename_i h26
      simp only [Option.some.injEq] at h
      subst h
      have hl : (loadCells ⟨g, 0, none⟩ (c.extract 0 26).toList.length).run Tryz.prog w = .ok (c.extract 0 26).toList.toArray w :=
        run_loadCells_list (P := Tryz.prog) w ⟨g, 0, none⟩ (c.extract 0 26).toList (fun j x hx => by
          have hadd : (⟨g, 0, none⟩ : Addr).add j = ⟨g, j, none⟩ := by unfold Addr.add; split <;> simp_all
          rw [hadd]
          simp only [Array.toList_extract, List.extract_eq_take_drop, List.drop_zero, Nat.sub_zero, List.getElem?_take] at hx
          split at hx
          · simp only [World.cell?, hg]; simpa using hx
          · simp at hx)
      have hs : (c.extract 0 26).toList.length = 26 := by simp; omega
      rw [hs] at hl
      have hi := info_regs
      cases hq : Tryz.prog.info? 28 with
      | none => simp [hq] at hi
      | some i =>
        have hs2 : i.size = 26 := by simpa [hq] using hi
        have hagg : (isAgg 28).run Tryz.prog w = .ok true w := by
          unfold isAgg
          rw [Sem.run_bind, run_underlying Tryz.underlying28 w]
          rfl
        simp only [Array.toArray_toList] at hl
        simp [loadRegs, Instr.loadAt, Instr.sureAddr, loadVar, Sem.run_bind, hagg, sizeOf, typeInfo, hq, hs2, hl]
    · exact absurd h (by simp)
  · exact absurd h (by simp)

theorem run_storeRegs (w : World) (g : Nat) (r : Regs) (h : stOk w g = true) : (storeRegs (.pointer (some ⟨g, 0, none⟩)) r.val).run Tryz.prog w = .ok () (putR w g r) := by
  unfold stOk at h
  split at h
  · rename_i c e hg
    simp only [decide_eq_true_eq] at h
    have := run_storeVar_part (P := Tryz.prog) w g 0 e 28 c r.cells (r.cells ++ c.extract 26 c.size) hg info_regs (by rw [Regs.size_cells]; omega) (Regs.one r) (by
      apply Array.ext'
      rw [List.take_zero, List.nil_append, Nat.zero_add, Regs.size_cells, Array.toList_append, Array.toList_extract, List.extract_eq_take_drop]
      rw [List.take_of_length_le (by rw [List.length_drop, Array.length_toList]; exact Nat.le_refl _)])
    have hp : putR w g r = w.setRow g (r.cells ++ c.extract 26 c.size) := by
      unfold putR World.setRow
      exact congrArg (fun h => ({ w with heap := h } : World)) (modify_congr w.heap g _ _ _ hg rfl)
    rw [hp]
    simpa [storeRegs, Instr.storeAt, Instr.sureAddr, Sem.run_bind] using this
  · exact absurd h (by simp)

noncomputable def loadStuck (w : World) (g : Nat) : Result Value := (loadRegs (.pointer (some ⟨g, 0, none⟩))).run Tryz.prog w
@[go_sem] theorem run_loadRegs' (w : World) (g : Nat) : (loadRegs (.pointer (some ⟨g, 0, none⟩))).run Tryz.prog w = match regsIn w g with | some v => .ok v w | none => loadStuck w g := by
  cases h : regsIn w g with
  | none => rfl
  | some v => exact run_loadRegs w g v h
/-! How these words go over what a world is made of. -/
@[go_sem] theorem regsIn_alloc_at (w : World) (c : Array Value) (t : TypeId) (n : Nat) (hn : n = w.heap.size) : regsIn (w.alloc (.cells c t)) n = rowRegs c := regsIn_row (Row.new' hn)
@[go_sem] theorem regsIn_alloc_past (w : World) (o : Obj) (n : Nat) (hn : n < w.heap.size) : regsIn (w.alloc o) n = regsIn w n := by
  unfold regsIn; rw [Below.heap_alloc w o n hn]
@[go_sem] theorem regsIn_drew (w : World) (n : Nat) : regsIn w.drew n = regsIn w n := rfl
@[go_sem] theorem regsIn_drewN (w : World) (n k : Nat) : regsIn (w.drewN k) n = regsIn w n := rfl
@[go_sem] theorem stOk_alloc_at (w : World) (c : Array Value) (t : TypeId) (n : Nat) (hn : n = w.heap.size) (h : 26 ≤ c.size) : stOk (w.alloc (.cells c t)) n = true := stOk_row (Row.new' hn) h
@[go_sem] theorem stOk_regs (w : World) (r : Regs) (t : TypeId) (n : Nat) (hn : n = w.heap.size) : stOk (w.alloc (.cells r.cells t)) n = true := stOk_row (Row.new' hn) (by rw [Regs.size_cells]; decide)
@[go_sem] theorem stOk_alloc_past (w : World) (o : Obj) (n : Nat) (hn : n < w.heap.size) : stOk (w.alloc o) n = stOk w n := by
  unfold stOk; rw [Below.heap_alloc w o n hn]
@[go_sem] theorem stOk_drew (w : World) (n : Nat) : stOk w.drew n = stOk w n := rfl
@[go_sem] theorem stOk_drewN (w : World) (n k : Nat) : stOk (w.drewN k) n = stOk w n := rfl
@[go_sem] theorem putR_drew (w : World) (n : Nat) (r : Regs) : putR w.drew n r = (putR w n r).drew := rfl
@[go_sem] theorem putR_drewN (w : World) (n k : Nat) (r : Regs) : putR (w.drewN k) n r = (putR w n r).drewN k := rfl
@[simp, go_sem] theorem putR_size (w : World) (n : Nat) (r : Regs) : (putR w n r).heap.size = w.heap.size := by simp [putR]
theorem putR_other (w : World) (n k : Nat) (r : Regs) (h : k ≠ n) : (putR w n r).heap[k]? = w.heap[k]? := by
  simp only [putR, Array.getElem?_modify]
  rw [if_neg (fun e => h e.symm)]
theorem Row.putR {w : World} {g : Nat} {cs : Array Value} {t : TypeId} (h : Row w g cs t) (r : Regs) : Row (putR w g r) g (r.cells ++ cs.extract 26 cs.size) t := by
  show (Go.Proofs.YtcglkefaopgjeaaGreatDoor.putR w g r).heap[g]? = _
  simp only [Go.Proofs.YtcglkefaopgjeaaGreatDoor.putR, Array.getElem?_modify, if_true]
  rw [show w.heap[g]? = _ from h]
  rfl
theorem Row.putR_other {w : World} {g k : Nat} {cs : Array Value} {t : TypeId} (h : Row w g cs t) (r : Regs) (hk : g ≠ k) : Row (Go.Proofs.YtcglkefaopgjeaaGreatDoor.putR w k r) g cs t := (Go.Proofs.YtcglkefaopgjeaaGreatDoor.putR_other w k g r hk).trans h
theorem Fr.putR {own : Nat → Prop} {a w : World} (h : Fr own a w) {g : Nat} (hp : own g) (r : Regs) : Fr own a (Go.Proofs.YtcglkefaopgjeaaGreatDoor.putR w g r) :=
  h.trans ⟨rfl, rfl, rfl, by simp, fun k _ ho => Go.Proofs.YtcglkefaopgjeaaGreatDoor.putR_other w g k r (fun e => ho (e ▸ hp))⟩
theorem Below.putR {B : Nat} {a w : World} (h : Below B a w) {g : Nat} (hg : B ≤ g) (r : Regs) : Below B a (Go.Proofs.YtcglkefaopgjeaaGreatDoor.putR w g r) :=
  h.trans ⟨rfl, rfl, rfl, by simp, fun k hk => Go.Proofs.YtcglkefaopgjeaaGreatDoor.putR_other w g k r (by omega)⟩
theorem mcells_tail (C : Phys) (m : Mach) (r : Regs) : r.cells ++ (mcells C m).extract 26 31 = mcells C { m with r := r } := by
  apply Array.ext'
  rw [Array.toList_append, Array.toList_extract, List.extract_eq_take_drop]
  unfold mcells
  rw [Array.toList_append, Array.toList_append, List.drop_append_of_le_length (by rw [Array.length_toList, Regs.size_cells]; exact Nat.le_refl _)]
  rw [List.drop_of_length_le (by rw [Array.length_toList, Regs.size_cells]; exact Nat.le_refl _)]
  rfl
theorem Own.putR {w : World} {C : Phys} {lv : Value} {m : Mach} (h : Own w C lv m) (r : Regs) (hr : r.wf) : Own (Go.Proofs.YtcglkefaopgjeaaGreatDoor.putR w C.b r) C lv { m with r := r } :=
  h.setM (Fr.putR (Fr.refl (fun k => k = C.b) w) rfl r) (mcells_tail C m r ▸ Row.putR h.row r) rfl rfl rfl rfl rfl ⟨hr, h.wf.base, h.wf.size⟩
@[go_sem] theorem cell_putR (w : World) (g k j : Nat) (r : Regs) (h : k ≠ g) : (putR w g r).cell? ⟨k, j, none⟩ = w.cell? ⟨k, j, none⟩ := World.cell?_of_block (putR_other w g k r h)
@[go_sem] theorem frozen_putR (w : World) (g k j : Nat) (r : Regs) (h : k ≠ g) : (putR w g r).frozen? ⟨k, j, none⟩ = w.frozen? ⟨k, j, none⟩ := World.frozen?_of_block (putR_other w g k r h)
attribute [go_sem] run_storeRegs

theorem stOk_form {w : World} {g : Nat} (h : stOk w g = true) : ∃ c t, Row w g c t ∧ 26 ≤ c.size := by
  unfold stOk at h
  split at h
  · rename_i c e hg
    exact ⟨c, e, hg, by simpa using h⟩
  · exact absurd h (by simp)
@[go_sem] theorem regsIn_putR (w : World) (g : Nat) (r : Regs) (h : stOk w g = true) : regsIn (putR w g r) g = some r.val := by
  obtain ⟨c, t, hr, hs⟩ := stOk_form h
  rw [regsIn_row (Row.putR hr r), rowRegs, if_pos (by rw [Array.size_append, Regs.size_cells]; omega)]
  congr 2
  apply Array.ext'
  rw [Array.toList_extract, List.extract_eq_take_drop, Array.toList_append, List.drop_zero, Nat.sub_zero]
  exact List.take_left' (by rw [Array.length_toList, Regs.size_cells])
@[go_sem] theorem stOk_putR (w : World) (g : Nat) (r : Regs) (h : stOk w g = true) : stOk (putR w g r) g = true := by
  obtain ⟨c, t, hr, hs⟩ := stOk_form h
  exact stOk_row (Row.putR hr r) (by rw [Array.size_append, Regs.size_cells]; omega)
@[go_sem] theorem cell_putR_lo (w : World) (g j : Nat) (r : Regs) (h : stOk w g = true) (hj : j < 26) : (putR w g r).cell? ⟨g, j, none⟩ = r.cells[j]? := by
  obtain ⟨c, t, hr, hs⟩ := stOk_form h
  rw [(Row.putR hr r).cell, Array.getElem?_append_left (by rw [Regs.size_cells]; exact hj)]
@[go_sem] theorem cell_putR_hi (w : World) (g j : Nat) (r : Regs) (h : stOk w g = true) (hj : 26 ≤ j) : (putR w g r).cell? ⟨g, j, none⟩ = w.cell? ⟨g, j, none⟩ := by
  obtain ⟨c, t, hr, hs⟩ := stOk_form h
  rw [(Row.putR hr r).cell, hr.cell, Array.getElem?_append_right (by rw [Regs.size_cells]; exact hj), Regs.size_cells]
  by_cases hjc : j < c.size
  · rw [Array.getElem?_extract]
    simp
    rw [if_pos (by omega), show 26 + (j - 26) = j by omega]
  · rw [Array.getElem?_eq_none (by simp; omega), Array.getElem?_eq_none (by omega)]
@[go_sem] theorem frozen_putR_same (w : World) (g j : Nat) (r : Regs) (h : stOk w g = true) : (putR w g r).frozen? ⟨g, j, none⟩ = false := by
  obtain ⟨c, t, hr, hs⟩ := stOk_form h
  exact (Row.putR hr r).frozen j

/-- What a walk wants to know of a machine. -/
structure Sees (w : World) (C : Phys) (m : Mach) : Prop where
  c : ∀ j, w.cell? ⟨C.b, j, none⟩ = (mcells C m)[j]?
  f : ∀ j, w.frozen? ⟨C.b, j, none⟩ = false
  r : regsIn w C.b = some m.r.val
  s : stOk w C.b = true
  l : C.b < w.heap.size
theorem Own.sees {w : World} {C : Phys} {lv : Value} {m : Mach} (h : Own w C lv m) : Sees w C m :=
  ⟨h.row.cell, h.row.frozen, (regsIn_row h.row).trans (rowRegs_mcells C m), stOk_row h.row (by rw [msize]; decide), h.row.lt⟩
end Go.Proofs.YtcglkefaopgjeaaGreatDoor

/- Contracts of package core. -/
namespace Go.Proofs.YtcglkefaopgjeaaGreatDoor
set_option linter.unusedSimpArgs false
set_option linter.unusedVariables false
open Go.RowKit

theorem quietS {P : Program} {f : FuncId} {args : Array Value} {w : World} {n : Nat} {v : Value}
    (h : Calls P f args (w.drewN n) fun e w' => e = .returned v ∧ w.drewN n = w') : Calls P f args (w.drewN n) fun e w'' => e = .returned v ∧ ∃ m, w'' = w.drewN m :=
  h.mono fun _ _ ⟨he, hm⟩ => ⟨he, n, hm.symm⟩
set_option maxHeartbeats 800000 in
theorem plain_yes (w : World) (C : Phys) (lv : Value) (m : Mach) (h : Own w C lv m) (x : Int) :
    Calls Tryz.prog 115 #[.pointer (some ⟨C.b, 0, none⟩), (⟨x, false⟩ : V).val] w fun e w' => e = .returned (.int .u16 x) ∧ Below w.heap.size w w' := by
  go_enter Tryz.func115, Tryz.ntmps115
  go_wp2_with fail
  go_ret
  exact ⟨rfl, by (repeat (first | exact Below.refl _ _ | assumption | refine Below.setCell ?_ (by simp) _ | refine Below.alloc ?_ (by simp <;> omega) _ | refine Below.drew ?_ | refine Below.drewN ?_ | refine Below.setRow ?_ (by simp <;> omega) _))⟩
set_option maxHeartbeats 800000 in
theorem plain_no (w : World) (C : Phys) (lv : Value) (m : Mach) (h : Own w C lv m) (x : Int) :
    Calls Tryz.prog 115 #[.pointer (some ⟨C.b, 0, none⟩), (⟨x, true⟩ : V).val] w fun e w' => e = .returned (.int .u16 x) ∧ After C lv w m.stuck w' := by
  have H := Lib.hid (h.alloc (.cells #[.int .u16 x, .bool true] 24))
  have B := Lib.hid (Box.new h #[.int .u16 x, .bool true] 24)
  clear h
  go_enter Tryz.func115, Tryz.ntmps115
  go_wp2_with fail
  refine (stuck_any _ _ _ _ H.out).mono ?_; rintro e w1 ⟨rfl, lv1, h1, f1, k1⟩; dsimp only
  have b1 := (B.out.step f1 k1).row.cell
  have H1 := Lib.hid h1
  have F1 := Lib.hid f1
  have K1 := Lib.hid k1
  clear h1 f1 k1
  go_wp2_with fail
  go_ret
  exact ⟨rfl, After.pre ((Fr.refl _ _).alloc _) (fun _ hk => Or.inl hk) ⟨lv1, H1.out, F1.out, K1.out⟩⟩

def Mach.plain (m : Mach) (x : V) : Mach := if x.t then m.stuck else m
theorem plain_any (w : World) (C : Phys) (lv : Value) (m : Mach) (h : Own w C lv m) (x : V) :
    Calls Tryz.prog 115 #[.pointer (some ⟨C.b, 0, none⟩), x.val] w fun e w' => e = .returned (.int .u16 x.v) ∧ After C lv w (m.plain x) w' := by
  obtain ⟨v, t⟩ := x
  cases t with
  | false =>
    refine (plain_yes w C lv m h v).mono ?_
    rintro e w' ⟨rfl, hb⟩
    exact ⟨rfl, After.of_own (h.below hb) (Fr.of_below hb)⟩
  | true => exact plain_no w C lv m h v

/-- Is a segment's byte the program's? -/
def Mach.own1 (m : Mach) (seg : V) (off : Int) : Bool := seg.t && decide (((lin seg.v off : Int) - m.base) % 1048576 < m.size)

theorem wrap32_lo (x : Int) : 0 ≤ IntKind.u32.wrap x := by rw [IntKind.wrap_u32]; omega
theorem wrap32_hi (x : Int) : IntKind.u32.wrap x ≤ 4294967295 := by rw [IntKind.wrap_u32]; omega

set_option maxHeartbeats 800000 in
theorem own1_any (w : World) (C : Phys) (lv : Value) (m : Mach) (h : Own w C lv m) (seg : V) (off : Int) (hs : seg.wf) (h0 : 0 ≤ off) (h1 : off ≤ 65535) :
    Calls Tryz.prog 152 #[.pointer (some ⟨C.b, 0, none⟩), seg.val, .int .u16 off] w fun e w' => e = .returned (.bool (m.own1 seg off)) ∧ Below w.heap.size w w' := by
  obtain ⟨sv, st⟩ := seg
  obtain ⟨s0, s1⟩ := hs
  have hc := h.row.cell
  have hl := h.row.lt
  have hb := h.wf.base
  have hz := h.wf.size
  clear h
  dsimp only at s0 s1
  have w0 := wrap32_lo ((lin sv off : Int) - m.base)
  go_enter Tryz.func152, Tryz.ntmps152
  go_wp2_with fail
  go_quiet ((go_at_call 84; exact quietS (linear_any _ _ _ s0 s1 h0 h1)))
  go_wp2_with fail
  all_goals
    go_ret
    exact ⟨by simp_all [Mach.own1], by (repeat (first | exact Below.refl _ _ | assumption | refine Below.setCell ?_ (by simp) _ | refine Below.alloc ?_ (by simp <;> omega) _ | refine Below.drew ?_ | refine Below.drewN ?_ | refine Below.setRow ?_ (by simp <;> omega) _))⟩

abbrev P3 (seg : V) (off : Int) : Value := .agg #[.int .u16 seg.v, .bool seg.t, .int .u16 off]
def Mach.owns (m : Mach) (seg : V) (off : Int) : Nat → Bool
  | 0 => true
  | n + 1 => m.owns seg off n && m.own1 seg (IntKind.u16.wrap (off + n))

theorem owns_false (m : Mach) (seg : V) (off : Int) (n k : Nat) (hk : k < n) (h : m.own1 seg (IntKind.u16.wrap (off + k)) = false) : m.owns seg off n = false := by
  induction n with
  | zero => omega
  | succ n ih =>
    rw [Mach.owns]
    by_cases e : k = n
    · subst e; rw [h, Bool.and_false]
    · rw [ih (by omega), Bool.false_and]
set_option maxHeartbeats 1600000 in
theorem Own_any (w : World) (C : Phys) (lv : Value) (m : Mach) (h : Own w C lv m) (seg : V) (off : Int) (hs : seg.wf) (n : Nat) (hn : n ≤ 65535) :
    Calls Tryz.prog 100 #[.pointer (some ⟨C.b, 0, none⟩), P3 seg off, .int .i64 n] w fun e w' => e = .returned (.bool (m.owns seg off n)) ∧ Below w.heap.size w w' := by
  have H := Lib.hid h
  have B := Lib.hid (Box.new h #[.int .u16 seg.v, .bool seg.t, .int .u16 off] 52)
  clear h
  go_enter Tryz.func100, Tryz.ntmps100
  go_wp2_with fail
  go_loopw [7, 9] (fun _ i wr => ∃ k : Nat, k ≤ n ∧ i = .int .i64 k ∧ m.owns seg off k = true ∧ Below (w.heap.size + 1) (w.alloc (.cells #[.int .u16 seg.v, .bool seg.t, .int .u16 off] 52)) wr) (fun _ i _ => n - (intOf i).toNat)
  case atStart => exact ⟨0, Nat.zero_le _, rfl, rfl, Below.refl _ _⟩
  case round =>
    obtain ⟨k, hk, rfl, hown, hbl⟩ := hrel
    have hb0 : Below w.heap.size w wr := ((Below.refl _ _).alloc (Nat.le_refl _) _).trans (hbl.mono (by omega))
    have hbr : Row wr w.heap.size #[.int .u16 seg.v, .bool seg.t, .int .u16 off] 52 := Below.row hbl B.out.row (by omega)
    have bc := hbr.cell
    have HB := Lib.hid hbl
    have HO := Lib.hid (H.out.below hb0)
    have H0 := Lib.hid hb0
    have hsz : w.heap.size < wr.heap.size := hbr.lt
    have HOW := Lib.hid hown
    clear hbl hb0 hbr hown
    by_cases hlt : k < n
    · have hi : ((k : Nat) : Int) < ((n : Nat) : Int) := by omega
      have hw := wrap16_lo (off + k)
      have hw' := wrap16_hi (off + k)
      cases ho : m.own1 seg (IntKind.u16.wrap (off + k)) with
      | true =>
        have HH := Lib.hid ho
        clear ho
        go_wp2_with (go_at_call 152; refine (own1_any _ _ _ _ HO.out seg _ hs hw hw').mono ?_; rw [HH.out]; rintro e w1 ⟨rfl, hb1⟩; have H1 := Lib.hid hb1; clear hb1)
        exact ⟨⟨k + 1, by omega, by go_num, by rw [Mach.owns, HOW.out, HH.out]; rfl, HB.out.trans (H1.out.mono (by omega))⟩, by simp [intOf]; omega⟩
      | false =>
        have HH := Lib.hid ho
        clear ho
        go_wp2_with (go_at_call 152; refine (own1_any _ _ _ _ HO.out seg _ hs hw hw').mono ?_; rw [HH.out]; rintro e w1 ⟨rfl, hb1⟩; have H1 := Lib.hid hb1; clear hb1)
        go_ret
        exact ⟨by rw [owns_false m seg off n k hlt HH.out]; rfl, H0.out.trans (H1.out.mono (by omega))⟩
    · go_wp2_with fail
      go_ret
      obtain rfl : k = n := by omega
      exact ⟨by rw [HOW.out]; rfl, H0.out⟩
end Go.Proofs.YtcglkefaopgjeaaGreatDoor

/- Contracts of package core: bytes and words of memory. -/
namespace Go.Proofs.YtcglkefaopgjeaaGreatDoor
set_option linter.unusedSimpArgs false
set_option linter.unusedVariables false
open Go.RowKit

theorem quietS2 {P : Program} {f : FuncId} {args : Array Value} {w : World} {n : Nat} {v : Value}
    (h : Calls P f args (w.drewN n) fun e w' => e = .returned v ∧ w.drewN n = w') : Calls P f args (w.drewN n) fun e w'' => e = .returned v ∧ ∃ m, w'' = w.drewN m := quietS h

theorem Fr.two (w : World) (g : Nat) (a b : Nat) (u v : Value) : Fr (fun k => k = g) w ((w.setCell ⟨g, a, none⟩ u).setCell ⟨g, b, none⟩ v) :=
  ((Fr.refl (fun k => k = g) w).setCell (p := ⟨g, a, none⟩) rfl u).setCell (p := ⟨g, b, none⟩) rfl v
/-- A callee's work between boxes of the caller's own: before it only new blocks, behind it a store into one of them. -/
theorem After.box {C : Phys} {lv : Value} {w w1 w2 w3 : World} {m m' : Mach} (ho : Own w C lv m) (hb : Below w.heap.size w w1) (ha : After C lv w1 m' w2) {g : Nat} (hg : w.heap.size ≤ g) (hg1 : g < w1.heap.size)
    (hf : Fr (fun k => k = g) w2 w3) : After C lv w m' w3 := by
  obtain ⟨lv2, h1, h2, h3⟩ := ha
  have b0 := ho.lt
  have b1 := ho.l1
  have b2 := ho.l2
  have b3 := ho.l3
  have b4 := ho.l4
  have b5 : C.wb < C.base := ho.wor.wbB
  have hlv : ∀ k, lv2.ownBlock = some k → ¬ k = g := by
    intro k hk e
    subst e
    rcases h3 k hk with h | h
    · have := ho.lvlt h; omega
    · omega
  refine ⟨lv2, h1.kept hf (by omega) (by omega) (by omega) (by omega) (by omega) (fun k hk => ?_) hlv, ?_, ?_⟩
  · have : k < C.base := (ho.wor.repB k hk).1
    omega
  · refine ⟨hf.os.trans (h2.os.trans hb.os), hf.tape.trans (h2.tape.trans hb.tape), hf.output.trans (h2.output.trans hb.output), Nat.le_trans hb.size (Nat.le_trans h2.size hf.size), ?_⟩
    intro k hk hn
    have k1 : k < w1.heap.size := Nat.lt_of_lt_of_le hk hb.size
    exact ((hf.block k (Nat.lt_of_lt_of_le k1 h2.size) (by omega)).trans (h2.block k k1 hn)).trans (hb.block k hk)
  · intro k hk
    exact (h3 k hk).imp id (fun h => Nat.le_trans hb.size h)

def Mach.byteOk (m : Mach) (seg : V) (off : Int) : Bool := (m.tag (lin seg.v off) == 0) && m.owns seg off 1
def Mach.byteS (m : Mach) (seg : V) (off : Int) : Mach := if m.byteOk seg off then m else m.stuck

theorem MemAt.drewN {w : World} {mb bb tb n : Nat} {f t : Nat → Int} (hm : MemAt w mb bb tb f t) : MemAt (w.drewN n) mb bb tb f t :=
  ⟨hm.r.drewN, hm.b.drewN, hm.t.drewN, hm.ne1, hm.ne2, hm.ne3, hm.wf⟩

set_option maxHeartbeats 1600000 in
theorem byte_any (w : World) (C : Phys) (lv : Value) (m : Mach) (h : Own w C lv m) (seg : V) (off : Int) (hs : seg.wf) (h0 : 0 ≤ off) (h1 : off ≤ 65535) :
    Calls Tryz.prog 108 #[.pointer (some ⟨C.b, 0, none⟩), P3 seg off] w fun e w' => e = .returned (.int .u16 (m.mem (lin seg.v off))) ∧ After C lv w (m.byteS seg off) w' := by
  have H := Lib.hid (h.alloc (.cells #[.int .u16 seg.v, .bool seg.t, .int .u16 off] 52))
  have B := Lib.hid (Box.new h #[.int .u16 seg.v, .bool seg.t, .int .u16 off] 52)
  have hc := h.row.cell
  have hl := h.row.lt
  have HM := Lib.hid h.mem
  have wf := h.mem.wf (lin seg.v off)
  have WF := Lib.hid wf
  have s0 := hs.1
  have s1 := hs.2
  have hwf0 := wf.1
  have hwf1 := wf.2
  clear h wf
  have hcon : ∀ n, Calls Tryz.prog 57 #[.pointer (some ⟨C.mb, 0, none⟩), .int .u16 seg.v, .int .u16 off] ((w.alloc (.cells #[.int .u16 seg.v, .bool seg.t, .int .u16 off] 52)).drewN n) fun e w' => e = .returned (.tuple #[.int .u8 (m.mem (lin seg.v off)), .bool (m.tag (lin seg.v off) == 0)]) ∧ (w.alloc (.cells #[.int .u16 seg.v, .bool seg.t, .int .u16 off] 52)).drewN n = w' :=
    fun n => memByte_any _ _ _ _ _ _ ((HM.out.alloc _).drewN) seg.v off s0 s1 h0 h1
  cases ht : m.tag (lin seg.v off) == 0 with
  | false =>
    rw [ht] at hcon
    have HCON := Lib.hid hcon
    have hb : m.byteOk seg off = false := by rw [Mach.byteOk, ht, Bool.false_and]
    have HB := Lib.hid hb
    clear hb ht hcon
    rw [Mach.byteS, HB.out, if_neg (by decide)]
    go_enter Tryz.func108, Tryz.ntmps108
    go_wp2_with fail
    go_quiet ((go_at_call 57; exact quietS (HCON.out _)))
    go_wp2_with (go_at_call 38; refine (stuck_any _ _ _ _ H.out.drewN).mono ?_; rintro e w1 ⟨rfl, ha⟩; have HA := Lib.hid ha; clear ha)
    go_ret
    exact ⟨rfl, After.pre (Fr.drewN ((Fr.refl _ _).alloc _)) (fun _ hk => Or.inl hk) HA.out⟩
  | true =>
    rw [ht] at hcon
    have HCON := Lib.hid hcon
    have hb : m.byteOk seg off = m.owns seg off 1 := by rw [Mach.byteOk, ht, Bool.true_and]
    have HB := Lib.hid hb
    clear hb ht hcon
    rw [Mach.byteS, HB.out]
    cases ho : m.owns seg off 1 with
    | true =>
      have HO := Lib.hid ho
      clear ho
      rw [if_pos rfl]
      go_enter Tryz.func108, Tryz.ntmps108
      go_wp2_with fail
      go_quiet ((go_at_call 57; exact quietS (HCON.out _)))
      go_wp2_with (go_at_call 100; refine (Own_any _ _ _ _ H.out.drewN seg off hs 1 (by decide)).mono ?_; rw [HO.out]; rintro e w1 ⟨rfl, hb1⟩; have H1 := Lib.hid hb1; clear hb1)
      go_ret
      exact ⟨rfl, (After.of_own H.out.drewN (Fr.drewN ((Fr.refl _ _).alloc _))).post H1.out⟩
    | false =>
      have HO := Lib.hid ho
      clear ho
      rw [if_neg (by decide)]
      go_enter Tryz.func108, Tryz.ntmps108
      go_wp2_with fail
      go_quiet ((go_at_call 57; exact quietS (HCON.out _)))
      go_wp2_with (first | (go_at_call 100; refine (Own_any _ _ _ _ H.out.drewN seg off hs 1 (by decide)).mono ?_; rw [HO.out]; rintro e w1 ⟨rfl, hb1⟩; have H1 := Lib.hid hb1; clear hb1) | (go_at_call 38; refine (stuck_any _ _ _ _ (H.out.drewN.below H1.out)).mono ?_; rintro e w2 ⟨rfl, ha⟩; have HA := Lib.hid ha; clear ha))
      go_ret
      exact ⟨rfl, After.pre ((Fr.drewN ((Fr.refl _ _).alloc _)).trans (Fr.of_below H1.out)) (fun _ hk => Or.inl hk) HA.out⟩
end Go.Proofs.YtcglkefaopgjeaaGreatDoor

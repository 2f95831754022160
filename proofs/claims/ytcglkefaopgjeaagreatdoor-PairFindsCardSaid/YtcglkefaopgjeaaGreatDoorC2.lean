/- The contracts of package world, continued: New, Int, Stop, Out, In, Events. -/
import Derived.Test.YtcglkefaopgjeaaGreatDoorC1
namespace Go.Proofs.YtcglkefaopgjeaaGreatDoor
set_option linter.unusedSimpArgs false
set_option linter.unusedVariables false
open Go.RowKit

theorem WPost.of_at {p : WPhys} {w w' : World} {rs : List Int} {n : Nat} {l : List Ev} (h : WorldAt w' p rs n l) (hf : Fr p.own w w') : WPost p w rs n l w' := ⟨p.lv, h, hf, fun _ hk => Or.inl hk⟩
theorem WPost.after {p : WPhys} {w w1 w2 : World} {rs : List Int} {n : Nat} {l : List Ev} (hf : Fr p.own w w1) (h : WPost p w1 rs n l w2) : WPost p w rs n l w2 := by
  obtain ⟨lv', h1, h2, h3⟩ := h
  exact ⟨lv', h1, hf.trans h2, fun k hk => (h3 k hk).imp id (fun h => Nat.le_trans hf.size h)⟩

def nextV (rs : List Int) (i : Nat) : Int := if i < rs.length then rs.getD i 0 else 0
def nextI (rs : List Int) (i : Nat) : Nat := if i < rs.length then i + 1 else i

theorem next_any (w : World) (p : WPhys) (rs : List Int) (n : Nat) (l : List Ev) (h : WorldAt w p rs n l) :
    Calls Tryz.prog 203 #[.pointer (some ⟨p.wb, 0, none⟩)] w fun e w' => e = .returned (.int .u16 (nextV rs n)) ∧ WorldAt w' p rs (nextI rs n) l ∧ Fr p.own w w' := by
  by_cases hn : n < rs.length
  · refine (next_yes w p rs n l h hn).mono ?_
    rintro e w' ⟨rfl, h1, h2⟩
    rw [nextV, nextI, if_pos hn, if_pos hn]
    exact ⟨rfl, h1, h2⟩
  · refine (next_no w p rs n l h (by omega)).mono ?_
    rintro e w' ⟨rfl, h1⟩
    rw [nextV, nextI, if_neg hn, if_neg hn]
    exact ⟨rfl, h.below h1, Fr.of_below h1⟩

set_option maxHeartbeats 800000 in
theorem note_full (w : World) (p : WPhys) (rs : List Int) (n : Nat) (l : List Ev) (h : WorldAt w p rs n l) (e : Ev) (hl : ¬ l.length < 4000) :
    Calls Tryz.prog 82 #[.pointer (some ⟨p.wb, 0, none⟩), e.val] w fun r w' => r = .returned (.tuple #[]) ∧ WPost p w rs n l w' := by
  have c2 := h.c2
  have lt := h.row.lt
  have hlv : p.lv = .slice none 0 0 ∧ l.length = 0 ∨ ∃ g cap, p.lv = .slice (some ⟨g, 0, none⟩) l.length cap := by
    obtain ⟨_, h2 | ⟨g, cap, cur, hv, hg, _⟩⟩ := h.ev
    · exact Or.inl h2
    · exact Or.inr ⟨g, cap, hv⟩
  have H := Lib.hid h
  clear h
  rcases hlv with ⟨_, h0⟩ | ⟨g, cap, hg⟩
  · omega
  · rw [hg] at c2
    clear hg
    have h4 : ¬ ((l.length : Nat) : Int) < 4000 := by omega
    go_enter Tryz.func82, Tryz.ntmps82
    go_wp2_with fail
    go_end0
    exact ⟨rfl, WPost.of_at (H.out.below (by (repeat (first | exact Below.refl _ _ | assumption | refine Below.setCell ?_ (by simp) _ | refine Below.alloc ?_ (by simp <;> omega) _ | refine Below.drew ?_ | refine Below.drewN ?_ | refine Below.setRow ?_ (by simp <;> omega) _)))) (by (repeat (first | exact Fr.refl _ _ | assumption | refine Fr.alloc ?_ _ | refine Fr.drew ?_ | refine Fr.drewN ?_ | refine Fr.setCell ?_ (by first | exact Or.inl rfl | exact Or.inr rfl | rfl | assumption) _ | refine Fr.setRow ?_ (by first | exact Or.inl rfl | exact Or.inr rfl | rfl | assumption) _)))⟩

theorem note_all (w : World) (p : WPhys) (rs : List Int) (n : Nat) (l : List Ev) (h : WorldAt w p rs n l) (e : Ev) :
    Calls Tryz.prog 82 #[.pointer (some ⟨p.wb, 0, none⟩), e.val] w fun r w' => r = .returned (.tuple #[]) ∧ WPost p w rs n (noteL l e) w' := by
  by_cases hl : l.length < 4000
  · rw [noteL, if_pos hl]
    exact note_any w p rs n l h e hl
  · rw [noteL, if_neg hl]
    exact note_full w p rs n l h e hl

set_option maxHeartbeats 800000 in
theorem stop_any (w : World) (p : WPhys) (rs : List Int) (n : Nat) (l : List Ev) (h : WorldAt w p rs n l) (kind : Int) :
    Calls Tryz.prog 101 #[.pointer (some ⟨p.wb, 0, none⟩), .int .i64 kind] w fun r w' => r = .returned (.tuple #[]) ∧ WPost p w rs n (noteL l ⟨kind, 0, 0, 0, 0, 0, 0⟩) w' := by
  have H := Lib.hid h
  clear h
  go_enter Tryz.func101, Tryz.ntmps101
  go_wp2_with (go_at_call 82; refine (note_all _ _ _ _ _ H.out ⟨kind, 0, 0, 0, 0, 0, 0⟩).mono ?_; rintro e w' ⟨rfl, hq⟩)
  go_end0
  exact ⟨rfl, hq⟩

def endsInt (n a : Int) : Bool := n == 32 || (n == 33 && a / 256 == 76)
def intV (rs : List Int) (i : Nat) (n a : Int) : Int := if endsInt n a then a else nextV rs i
def intI (rs : List Int) (i : Nat) (n a : Int) : Nat := if endsInt n a then i else nextI rs i
def intL (rs : List Int) (i : Nat) (l : List Ev) (n a b c d : Int) : List Ev := noteL l ⟨3, n, intV rs i n a, a, b, c, d⟩

set_option maxHeartbeats 1600000 in
theorem int_any (w : World) (p : WPhys) (rs : List Int) (i : Nat) (l : List Ev) (h : WorldAt w p rs i l) (n a b c d : Int) (hn0 : 0 ≤ n) (hn1 : n ≤ 255) (h0 : 0 ≤ a) (h1 : a ≤ 65535) :
    Calls Tryz.prog 201 #[.pointer (some ⟨p.wb, 0, none⟩), .int .u8 n, .int .u16 a, .int .u16 b, .int .u16 c, .int .u16 d] w fun r w' =>
      r = .returned (.tuple #[.int .u16 (intV rs i n a), .bool (endsInt n a)]) ∧ WPost p w rs (intI rs i n a) (intL rs i l n a b c d) w' := by
  have H := Lib.hid h
  clear h
  by_cases e32 : n = 32
  · have he : endsInt n a = true := by simp [endsInt, e32]
    have HE := Lib.hid he
    clear he
    have n32 : (n == 32) = true := by simp [e32]
    clear e32
    go_enter Tryz.func201, Tryz.ntmps201
    go_wp2_with (go_at_call 82; refine (note_all _ _ _ _ _ H.out ⟨3, n, a, a, b, c, d⟩).mono ?_; rintro e w' ⟨rfl, hq⟩)
    go_ret2
    rw [intV, intI, intL, intV, HE.out]
    exact ⟨rfl, hq⟩
  · have n32 : (n == 32) = false := by simp [e32]
    by_cases e33 : n = 33
    · subst e33
      clear e32
      by_cases e76 : a / 256 = 76
      · have he : endsInt 33 a = true := by simp [endsInt, e76]
        have HE := Lib.hid he
        clear he
        have n76 : (a / 256 == 76) = true := by simp [e76]
        clear e76
        go_enter Tryz.func201, Tryz.ntmps201
        go_wp2_with (first | (go_at_call 86; refine (high_any _ _ h0 h1).mono ?_; rintro e w' ⟨rfl, rfl⟩) | (go_at_call 82; refine (note_all _ _ _ _ _ H.out ⟨3, 33, a, a, b, c, d⟩).mono ?_; rintro e w' ⟨rfl, hq⟩))
        go_ret2
        rw [intV, intI, intL, intV, HE.out]
        exact ⟨rfl, hq⟩
      · have he : endsInt 33 a = false := by simp [endsInt, e76]
        have HE := Lib.hid he
        clear he
        have n76 : (a / 256 == 76) = false := by simp [e76]
        clear e76
        go_enter Tryz.func201, Tryz.ntmps201
        go_wp2_with (first | (go_at_call 86; refine (high_any _ _ h0 h1).mono ?_; rintro e w' ⟨rfl, rfl⟩) | (go_at_call 203; refine (next_any _ _ _ _ _ H.out).mono ?_; rintro e w1 ⟨rfl, hw1, hf1⟩; have H1 := Lib.hid hw1; have F1 := Lib.hid hf1; clear hw1 hf1) | (go_at_call 82; refine (note_all _ _ _ _ _ H1.out ⟨3, 33, _, a, b, c, d⟩).mono ?_; rintro e w' ⟨rfl, hq⟩))
        go_ret2
        rw [intV, intI, intL, intV, HE.out]
        exact ⟨rfl, hq.after F1.out⟩
    · have n33 : (n == 33) = false := by simp [e33]
      have he : endsInt n a = false := by simp [endsInt, e32, e33]
      have HE := Lib.hid he
      clear he e32 e33
      go_enter Tryz.func201, Tryz.ntmps201
      go_wp2_with (first | (go_at_call 203; refine (next_any _ _ _ _ _ H.out).mono ?_; rintro e w1 ⟨rfl, hw1, hf1⟩; have H1 := Lib.hid hw1; have F1 := Lib.hid hf1; clear hw1 hf1) | (go_at_call 82; refine (note_all _ _ _ _ _ H1.out ⟨3, n, _, a, b, c, d⟩).mono ?_; rintro e w' ⟨rfl, hq⟩))
      go_ret2
      rw [intV, intI, intL, intV, HE.out]
      exact ⟨rfl, hq.after F1.out⟩

set_option maxHeartbeats 800000 in
theorem events_any (w : World) (p : WPhys) (rs : List Int) (n : Nat) (l : List Ev) (h : WorldAt w p rs n l) :
    Calls Tryz.prog 30 #[.pointer (some ⟨p.wb, 0, none⟩)] w (Cloned w 67 7 l.length (evCells l)) := by
  have c2 := h.c2
  have hown := h.ev
  have hm := h.most
  have one : ∀ u ∈ evCells l, u.oneCell' = true := by
    intro u hu
    obtain ⟨e, _, he⟩ := List.mem_flatMap.1 hu
    simp only [Ev.cells, List.mem_cons, List.not_mem_nil, or_false] at he
    rcases he with rfl | rfl | rfl | rfl | rfl | rfl | rfl <;> rfl
  have ONE := Lib.hid one
  clear one
  have hlv : p.lv = .slice none 0 0 ∧ l.length = 0 ∨ ∃ g cap, p.lv = .slice (some ⟨g, 0, none⟩) l.length cap := by
    obtain ⟨_, h2 | ⟨g, cap, cur, hv, hg, _⟩⟩ := h.ev
    · exact Or.inl h2
    · exact Or.inr ⟨g, cap, hv⟩
  clear h
  rcases hlv with ⟨hv, h0⟩ | ⟨g, cap, hv⟩
  · rw [hv] at c2
    obtain rfl : l = [] := List.eq_nil_of_length_eq_zero h0
    clear h0 hv hown hm
    go_enter Tryz.func30, Tryz.ntmps30
    go_wp2_with (go_at_call 79; refine (cloneE_nil _).mono ?_; rintro e w' ⟨rfl, rfl⟩)
    go_ret
    exact ⟨_, rfl, World.ownsRow_nil _ _ _ _, Below.refl _ _⟩
  · have hc := hown.cells (g := g) (by rw [hv]; rfl)
    have hl := hown.1
    have HC := Lib.hid hc
    have HL := Lib.hid hl
    rw [hv] at c2
    clear hc hl hown hv
    go_enter Tryz.func30, Tryz.ntmps30
    go_wp2_with (go_at_call 79; refine (cloneE_any _ ⟨g, 0, none⟩ _ _ (evCells l) HL.out HC.out ONE.out hm).mono ?_; rintro e w1 ⟨v', rfl, hq1, hq2⟩; have H1 := Lib.hid hq1; have H2 := Lib.hid hq2; clear hq1 hq2)
    go_ret
    exact ⟨v', rfl, H1.out, H2.out⟩
end Go.Proofs.YtcglkefaopgjeaaGreatDoor

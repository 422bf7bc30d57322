/-
  Split and the reference's Words at every text, with one account of what they return; NameOK; keyed.
-/
import Derived.Test.YtmngofgminlloaaDoorWords2
import Derived.Test.YtmngofgminlloaaDoorRef2
namespace Go.Proofs.YtmngofgminlloaaDoor
open Go.RowKit Tw Go.Shelf

/-- What Split returns of a text: a position, an error number, and words. -/
def WRes (s : ByteArray) (p e : Int) (ws : List Wd) : Prop :=
  (4000 < s.size ∧ p = 0 ∧ e = 2 ∧ ws = []) ∨ (s.size ≤ 4000 ∧ ∃ r, Lex s 0 [] r ∧ p = posOf r ∧ e = codeOf r ∧ ws = r.2)
theorem WRes.total (s : ByteArray) : ∃ p e ws, WRes s p e ws := by
  by_cases h : s.size ≤ 4000
  · obtain ⟨r, hr⟩ := Lex.total s s.size 0 [] (by omega) (by omega)
    exact ⟨_, _, _, .inr ⟨h, r, hr, rfl, rfl, rfl⟩⟩
  · exact ⟨_, _, _, .inl ⟨by omega, rfl, rfl, rfl⟩⟩

theorem Tw.Lex.small {s : ByteArray} {k : Nat} {l : List Wd} {r : Option Nat × List Wd} (h : Lex s k l r) : l.length ≤ k → k ≤ s.size → (∀ x ∈ l, x.text.size ≤ s.size) → r.2.length ≤ s.size ∧ ∀ x ∈ r.2, x.text.size ≤ s.size := by
  induction h with
  | done e => intro h1 h2 h3; exact ⟨by simp; omega, h3⟩
  | bad _ _ => intro h1 h2 h3; exact ⟨by simp, by simp⟩
  | @skip i n l r h1 h2 h3 ih =>
    intro a b c
    rcases Nat.lt_or_ge s.size (i + n) with hgt | hle
    · cases h3 with
      | done e => omega
      | skip h => omega
      | word h => omega
      | bad h => omega
    · exact ih (by omega) hle c
  | @word i k n l r h1 h2 h3 ih =>
    intro a b c
    have hn := tok_word_bd h1 h2
    rcases Nat.lt_or_ge s.size (i + n) with hgt | hle
    · cases h3 with
      | done e => omega
      | skip h => omega
      | word h => omega
      | bad h => omega
    · refine ih (by simp; omega) hle fun x hx => ?_
      rcases List.mem_append.1 hx with hx | hx
      · exact c x hx
      · simp at hx; subst hx; simp; omega

theorem WRes.small {s : ByteArray} {p e : Int} {ws : List Wd} (h : WRes s p e ws) : ws.length ≤ 4000 ∧ ∀ x ∈ ws, x.text.size ≤ 4000 := by
  rcases h with ⟨_, _, _, rfl⟩ | ⟨h1, r, hr, _, _, rfl⟩
  · exact ⟨by simp, by simp⟩
  · obtain ⟨a, b⟩ := hr.small (by simp) (by omega) (by simp)
    exact ⟨by omega, fun x hx => Nat.le_trans (b x hx) h1⟩

set_option maxRecDepth 100000 in
set_option maxHeartbeats 1000000 in
theorem split_c (s : ByteArray) (w : World) (p e : Int) (ws : List Wd) (hs : s.size ≤ maxLen) (hm : Glob w) (hr : WRes s p e ws) :
    Calls Tryd.prog 4 #[.string s] w fun x w' => (∃ v, x = .returned (.tuple #[v, .int .i64 p, .int .i64 e]) ∧ WRow w' w'.heap.size v ws) ∧ Below w.heap.size w w' := by
  rcases hr with ⟨h1, rfl, rfl, rfl⟩ | ⟨h1, r, hr, rfl, rfl, rfl⟩
  · unfold maxLen at hs
    go_enter Tryd.func4, Tryd.ntmps4
    go_wp2_with fail
    go_ret3
    exact ⟨⟨_, rfl, .inl ⟨rfl, rfl⟩⟩, Below.refl _ _⟩
  · refine (split_loop s w r h1 hm.maxLen (by have := hm.big; omega) hr).mono ?_
    rintro x w' ⟨v, rfl, ho, hb⟩
    exact ⟨⟨v, rfl, WRow.of_own ho⟩, hb⟩
set_option maxRecDepth 100000 in
set_option maxHeartbeats 1000000 in
theorem words_c (s : ByteArray) (w : World) (p e : Int) (ws : List Wd) (hs : s.size ≤ maxLen) (hm : Glob w) (hr : WRes s p e ws) :
    Calls Tryd.prog 5 #[.string s] w fun x w' => (∃ v, x = .returned (.tuple #[v, .int .i64 p, .int .i64 e]) ∧ WRow w' w'.heap.size v ws) ∧ Below w.heap.size w w' := by
  rcases hr with ⟨h1, rfl, rfl, rfl⟩ | ⟨h1, r, hr, rfl, rfl, rfl⟩
  · unfold maxLen at hs
    go_enter Tryd.func5, Tryd.ntmps5
    go_wp2_with fail
    go_ret3
    exact ⟨⟨_, rfl, .inl ⟨rfl, rfl⟩⟩, Below.refl _ _⟩
  · refine (words_any s w r h1 hm hr).mono ?_
    rintro x w' ⟨v, rfl, ho, hb⟩
    exact ⟨⟨v, rfl, WRow.of_own ho⟩, hb⟩
end Go.Proofs.YtmngofgminlloaaDoor

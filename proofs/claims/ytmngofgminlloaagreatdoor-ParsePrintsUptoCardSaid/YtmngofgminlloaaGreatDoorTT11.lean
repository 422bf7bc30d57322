/-
  What parameters and functions have been read, in plain Lean; rows of texts, numbers, functions in memory.
  The reference's table of how many arguments a kind has: made and read.
  The reference's Bind: how strongly an operator binds.
  What is wrong with a script (0: nothing), in plain Lean. No program in sight.
  The contracts of the reference's NameOK and of the law's own function keyed.
  The reference's exprFault, of whatever it answers of the parts.
  The reference's exprFault, kind by kind (A).
-/
import Derived.Test.YtmngofgminlloaaGreatDoorTT10
import Derived.Maps.OwnOps
import Derived.Maps.OwnSet
import Derived.Test.YtmngofgminlloaaGreatDoorTT08
import Derived.Test.YtmngofgminlloaaGreatDoorTT07
import Derived.Test.YtmngofgminlloaaGreatDoorTT05
import Derived.Outline
set_option linter.all false
namespace Go.Proofs.YtmngofgminlloaaGreatDoor
open Go.RowKit Tw

/-- Texts, numbers, functions at a slice, in blocks of F. -/
def StrsIn (w : World) (F : Nat → Prop) (v : Value) (l : List ByteArray) : Prop :=
  (∃ a c, v = .slice a 0 c ∧ l = []) ∨ ∃ g off cap, v = .slice (some ⟨g, off, none⟩) l.length cap ∧ F g ∧ g < w.heap.size ∧ ∀ k s, l[k]? = some s → w.cell? ⟨g, off + k, none⟩ = some (.string s)
def IntsIn (w : World) (F : Nat → Prop) (v : Value) (l : List Int) : Prop :=
  (∃ a c, v = .slice a 0 c ∧ l = []) ∨ ∃ g off cap, v = .slice (some ⟨g, off, none⟩) l.length cap ∧ F g ∧ g < w.heap.size ∧ ∀ k s, l[k]? = some s → w.cell? ⟨g, off + k, none⟩ = some (.int .i64 s)
def FnsIn (w : World) (F : Nat → Prop) (v : Value) (l : List Fn) : Prop :=
  (∃ a c, v = .slice a 0 c ∧ l = []) ∨ ∃ g off cap, ∃ vn vt vb : Nat → Value, v = .slice (some ⟨g, off, none⟩) l.length cap ∧ F g ∧ g < w.heap.size ∧
    ∀ k f, l[k]? = some f → CellsAt w g (off + k * 6) (fnCells f (vn k) (vt k) (vb k)) ∧ StrsIn w F (vn k) f.names ∧ IntsIn w F (vt k) f.types ∧ StmtsIn w F (vb k) f.body
section
variable {w w' : World} {F F' : Nat → Prop} {v : Value}
theorem StrsIn.keep {l : List ByteArray} (hk : Keeps F F' w w') (h : StrsIn w F v l) : StrsIn w' F' v l := by
  rcases h with h | ⟨g, off, cap, hv, hF, hg, hc⟩
  · exact .inl h
  · obtain ⟨h1, h2, h3⟩ := hk g hF hg
    exact .inr ⟨g, off, cap, hv, h1, h2, fun k s hs => (World.cell?_of_block (a := ⟨g, off + k, none⟩) h3).trans (hc k s hs)⟩
theorem IntsIn.keep {l : List Int} (hk : Keeps F F' w w') (h : IntsIn w F v l) : IntsIn w' F' v l := by
  rcases h with h | ⟨g, off, cap, hv, hF, hg, hc⟩
  · exact .inl h
  · obtain ⟨h1, h2, h3⟩ := hk g hF hg
    exact .inr ⟨g, off, cap, hv, h1, h2, fun k s hs => (World.cell?_of_block (a := ⟨g, off + k, none⟩) h3).trans (hc k s hs)⟩
theorem FnsIn.keep {l : List Fn} (hk : Keeps F F' w w') (h : FnsIn w F v l) : FnsIn w' F' v l := by
  rcases h with h | ⟨g, off, cap, vn, vt, vb, hv, hF, hg, hc⟩
  · exact .inl h
  · obtain ⟨h1, h2, h3⟩ := hk g hF hg
    refine .inr ⟨g, off, cap, vn, vt, vb, hv, h1, h2, fun k f hf => ?_⟩
    obtain ⟨c1, c2, c3, c4⟩ := hc k f hf
    exact ⟨c1.keep h3, c2.keep hk, c3.keep hk, c4.keep hk⟩
end
def strElem : Elem ByteArray where
  cells a := [.string a]
  kid _ _ _ := True
  keep _ _ := trivial
def intElem : Elem Int where
  cells a := [.int .i64 a]
  kid _ _ _ := True
  keep _ _ := trivial
def fnElem : Elem (Fn × Value × Value × Value) where
  cells a := fnCells a.1 a.2.1 a.2.2.1 a.2.2.2
  kid w F a := StrsIn w F a.2.1 a.1.names ∧ IntsIn w F a.2.2.1 a.1.types ∧ StmtsIn w F a.2.2.2 a.1.body
  keep hk h := ⟨h.1.keep hk, h.2.1.keep hk, h.2.2.keep hk⟩
theorem GRow.strs {w : World} {base T : Nat} {v : Value} {l : List ByteArray} (h : GRow strElem w base T 1 v l) : StrsIn w (fun g => base ≤ g) v l := by
  rcases own_cells h.1 with ⟨rfl, h0⟩ | ⟨g, cap, rfl, hb, hg, hc⟩
  · cases l with
    | nil => exact .inl ⟨_, _, rfl, rfl⟩
    | cons => simp at h0
  · refine .inr ⟨g, 0, cap, rfl, hb, hg, fun k s hs => ?_⟩
    have := hc _ _ (flat_at strElem.cells 1 (fun _ => rfl) l k s hs 0 _ rfl)
    simpa using this
theorem GRow.ints {w : World} {base T : Nat} {v : Value} {l : List Int} (h : GRow intElem w base T 1 v l) : IntsIn w (fun g => base ≤ g) v l := by
  rcases own_cells h.1 with ⟨rfl, h0⟩ | ⟨g, cap, rfl, hb, hg, hc⟩
  · cases l with
    | nil => exact .inl ⟨_, _, rfl, rfl⟩
    | cons => simp at h0
  · refine .inr ⟨g, 0, cap, rfl, hb, hg, fun k s hs => ?_⟩
    have := hc _ _ (flat_at intElem.cells 1 (fun _ => rfl) l k s hs 0 _ rfl)
    simpa using this
theorem GRow.fns {w : World} {base T : Nat} {v : Value} {l : List (Fn × Value × Value × Value)} (h : GRow fnElem w base T 6 v l) : FnsIn w (fun g => base ≤ g) v (l.map (·.1)) := by
  have hk : ∀ a ∈ l, fnElem.kid w (fun g => base ≤ g) a := fun a ha => fnElem.keep (fun g h1 h2 => ⟨h1.1, h2, rfl⟩) (h.2 a ha)
  rcases own_cells h.1 with ⟨rfl, h0⟩ | ⟨g, cap, rfl, hb, hg, hc⟩
  · cases l with
    | nil => exact .inl ⟨_, _, rfl, rfl⟩
    | cons => simp at h0
  · refine .inr ⟨g, 0, cap, (fun k => ((l[k]?).map (·.2.1)).getD undef), (fun k => ((l[k]?).map (·.2.2.1)).getD undef), (fun k => ((l[k]?).map (·.2.2.2)).getD undef), by simp, hb, hg, fun k f hf => ?_⟩
    obtain ⟨a, ha, rfl⟩ : ∃ a, l[k]? = some a ∧ a.1 = f := by simpa [List.getElem?_map, Option.map_eq_some_iff] using hf
    obtain ⟨k1, k2, k3⟩ := hk a (List.mem_of_getElem? ha)
    refine ⟨fun j u hu => ?_, by simpa [ha] using k1, by simpa [ha] using k2, by simpa [ha] using k3⟩
    have := flat_at fnElem.cells 6 (fun _ => rfl) l k a ha j u (by simpa [fnElem, ha] using hu)
    have := hc _ _ this
    simpa using this
/-- A row without kids is kept by an append to another row. -/
theorem GRow.beside {α : Type} {E : Elem α} {w w' : World} {base T sz : Nat} {v : Value} {l : List α} {row : Option Nat} (h : GRow E w base T sz v l) (hk : ∀ w F a, E.kid w F a) (hg : w.grownBy w' row) (hr : v.ownBlock = none ∨ v.ownBlock ≠ row) : GRow E w' base T sz v l :=
  ⟨h.1.kept hg hr, fun a _ => hk _ _ a⟩

/-- What params have been read. -/
structure InP (ws : List Wd) (en i : Nat) (b : Bool) (ns : List ByteArray) (ts : List Int) (i' : Nat) (b' : Bool) : Prop where
  le : i ≤ i'
  bt : b = true → b' = true ∧ i' = i
  len : ns.length ≤ i' + (if b' then 1 else 0)
  eq : ts.length = ns.length
  okk : b = false → b' = false → (∀ ms us j, Dp ws en ns.length i' (.ok ms us j) → Dp ws en 0 i (.ok (ns ++ ms) (ts ++ us) j)) ∧ (∀ j, Dp ws en ns.length i' (.bad j) → Dp ws en 0 i (.bad j))
  bad : b = false → b' = true → Dp ws en 0 i (.bad i')
def OutP (ws : List Wd) (en i : Nat) (b : Bool) (ns : List ByteArray) (ts : List Int) (i' : Nat) (b' : Bool) : Prop :=
  i ≤ i' ∧ (b = true → b' = true ∧ i' = i) ∧ (b = false → b' = false → i < i' ∧ Dp ws en 0 i (.ok ns ts i')) ∧ (b = false → b' = true → Dp ws en 0 i (.bad i'))
def OutF (ws : List Wd) (en i : Nat) (f : Fn) (i' : Nat) (b' : Bool) : Prop :=
  i ≤ i' ∧ (b' = false → i < i' ∧ Df ws en i (.fn f i')) ∧ (b' = true → Df ws en i (.bad i'))
section
variable {ws : List Wd} {en i : Nat} {b : Bool} {ns : List ByteArray} {ts : List Int} {i' : Nat}
theorem typ_cases {t : Int} {b' : Bool} (h : TypS ws i b t i' b') : (b = false ∧ typF ws i = .ok t ∧ i' = i + 2 ∧ b' = false) ∨ (b = false ∧ typF ws i = .bad i' ∧ b' = true ∧ i ≤ i') ∨ (b = true ∧ i' = i ∧ b' = true) := by
  obtain ⟨i1, b1, hW, h⟩ := h
  rcases want_cases hW with ⟨rfl, ha, rfl, rfl⟩ | ⟨rfl, ha, rfl, rfl⟩ | ⟨rfl, rfl, rfl⟩
  · rcases h with ⟨h1, rfl, rfl, rfl⟩ | ⟨h1, h2, rfl, rfl, rfl⟩ | ⟨h1, h2, rfl, rfl, rfl⟩
    · exact .inl ⟨rfl, by unfold typF; rw [if_pos (show isAt ws i tColon = true from ha), if_pos (show isAt ws (i + 1) tInt = true from (seeB_yes h1).2)], rfl, rfl⟩
    · exact .inl ⟨rfl, by unfold typF; rw [if_pos (show isAt ws i tColon = true from ha), if_neg (show ¬ isAt ws (i + 1) tInt = true from by rw [show isAt ws (i + 1) tInt = false from seeB_no h1]; decide), if_pos (show isAt ws (i + 1) tBool = true from (seeB_yes h2).2)], rfl, rfl⟩
    · exact .inr (.inl ⟨rfl, by unfold typF; rw [if_pos (show isAt ws i tColon = true from ha), if_neg (show ¬ isAt ws (i + 1) tInt = true from by rw [show isAt ws (i + 1) tInt = false from seeB_no h1]; decide), if_neg (show ¬ isAt ws (i + 1) tBool = true from by rw [show isAt ws (i + 1) tBool = false from seeB_no h2]; decide)], rfl, by omega⟩)
  · have hb : ∀ s, seeB ws i1 true s = true → False := fun s h => absurd (seeB_yes h).1 (by decide)
    rcases h with ⟨h1, _⟩ | ⟨_, h2, _⟩ | ⟨_, _, rfl, rfl, rfl⟩
    · exact (hb _ h1).elim
    · exact (hb _ h2).elim
    · exact .inr (.inl ⟨rfl, by unfold typF; rw [if_neg (show ¬ isAt ws _ tColon = true from by rw [show isAt ws _ tColon = false from ha]; decide)], rfl, by omega⟩)
  · have hb : ∀ s, seeB ws i1 true s = true → False := fun s h => absurd (seeB_yes h).1 (by decide)
    rcases h with ⟨h1, _⟩ | ⟨_, h2, _⟩ | ⟨_, _, rfl, rfl, rfl⟩
    · exact (hb _ h1).elim
    · exact (hb _ h2).elim
    · exact .inr (.inr ⟨rfl, rfl, rfl⟩)
theorem InP.start (ws : List Wd) (en i : Nat) (b : Bool) : InP ws en i b [] [] i b :=
  ⟨Nat.le_refl _, fun e => ⟨e, rfl⟩, by simp, rfl, fun _ _ => ⟨fun _ _ _ h => h, fun _ h => h⟩, fun e e' => absurd (e.symm.trans e') (by decide)⟩
theorem InP.close (h : InP ws en i b ns ts i' false) (hc : isAt ws i' sClose = true) : OutP ws en i b ns ts (i' + 1) false := by
  have hle := h.le
  refine ⟨by omega, fun e => absurd (h.bt e).1 (by decide), fun e _ => ⟨by omega, ?_⟩, fun _ e => absurd e (by decide)⟩
  simpa using (h.okk e rfl).1 [] [] (i' + 1) (.close hc)
theorem InP.out (h : InP ws en i b ns ts i' true) : OutP ws en i b ns ts i' true :=
  ⟨h.le, h.bt, fun _ e => absurd e (by decide), fun e _ => h.bad e rfl⟩
theorem InP.step {nm : ByteArray} {t : Int} {i2 i3 i4 : Nat} {b2 b3 b4 : Bool} (h : InP ws en i b ns ts i' false) (hc : isAt ws i' sClose = false) (hk : CommaS ws ns.length i' i2 b2) (hK : KindS ws (2 : Nat) i2 b2 nm i3 b3) (hT : TypS ws i3 b3 t i4 b4) :
    InP ws en i b (ns ++ [nm]) (ts ++ [t]) i4 b4 ∧ i' ≤ i4 ∧ (b4 = false → i' < i4) := by
  have hle := h.le
  have hlen := h.len
  have heq := h.eq
  simp only [Bool.false_eq_true, if_false, Nat.add_zero] at hlen
  have hb : b = false := by cases b with | false => rfl | true => have := (h.bt rfl).1; cases this
  have hok := h.okk hb rfl
  have hbt : ∀ x : Bool × Nat, b = true → x.1 = true ∧ x.2 = i := fun _ e => absurd (hb.symm.trans e) (by decide)
  have comma : (b2 = true ∧ i2 = i' ∧ ns.length ≠ 0 ∧ isAt ws i' sComma = false) ∨ (b2 = false ∧ i2 = parAt ns.length i' ∧ (ns.length ≠ 0 → isAt ws i' sComma = true)) := by
    rcases hk with ⟨hk, rfl, rfl⟩ | ⟨hk, hW⟩
    · exact .inr ⟨rfl, by unfold parAt; rw [if_pos hk], fun e => absurd hk e⟩
    · rcases want_cases hW with ⟨_, ha, rfl, rfl⟩ | ⟨_, ha, rfl, rfl⟩ | ⟨e, _⟩
      · exact .inr ⟨rfl, by unfold parAt; rw [if_neg hk], fun _ => ha⟩
      · exact .inl ⟨rfl, rfl, hk, ha⟩
      · cases e
  have hpar : i' ≤ parAt ns.length i' := by unfold parAt; split <;> omega
  rcases comma with ⟨rfl, rfl, hk0, ha⟩ | ⟨rfl, rfl, ha⟩
  · rcases kind_cases (by decide) hK with ⟨e, _⟩ | ⟨e, _⟩ | ⟨_, _, rfl, rfl⟩
    · cases e
    · cases e
    · rcases typ_cases hT with ⟨e, _⟩ | ⟨e, _⟩ | ⟨_, rfl, rfl⟩
      · cases e
      · cases e
      · exact ⟨⟨by omega, fun e => hbt (_, _) e, by simp; omega, by simp [heq], fun _ e => absurd e (by decide), fun _ _ => hok.2 _ (.comma hc hk0 ha)⟩, by omega, fun e => absurd e (by decide)⟩
  · rcases kind_cases (by decide) hK with ⟨_, hkd, rfl, rfl, rfl⟩ | ⟨_, hkd, _, rfl, rfl⟩ | ⟨e, _⟩
    · rcases typ_cases hT with ⟨_, ht, rfl, rfl⟩ | ⟨_, ht, rfl, hle4⟩ | ⟨e, _⟩
      · refine ⟨⟨by omega, fun e => hbt (_, _) e, by simp; omega, by simp [heq], fun _ _ => ⟨fun ms us j h => ?_, fun j h => hok.2 _ (.nextR hc ha hkd ht (by simpa using h))⟩, fun _ e => absurd e (by decide)⟩, by omega, fun _ => by omega⟩
        have := hok.1 _ _ _ (.next hc ha hkd ht (by simpa using h)); simpa using this
      · exact ⟨⟨by omega, fun e => hbt (_, _) e, by simp; omega, by simp [heq], fun _ e => absurd e (by decide), fun _ _ => hok.2 _ (.typ hc ha hkd ht)⟩, by omega, fun e => absurd e (by decide)⟩
      · cases e
    · rcases typ_cases hT with ⟨e, _⟩ | ⟨e, _⟩ | ⟨_, rfl, rfl⟩
      · cases e
      · cases e
      · exact ⟨⟨by omega, fun e => hbt (_, _) e, by simp; omega, by simp [heq], fun _ e => absurd e (by decide), fun _ _ => hok.2 _ (.name hc ha hkd)⟩, by omega, fun e => absurd e (by decide)⟩
    · cases e
theorem outf {nm : ByteArray} {t : Int} {l : List Sm} {i1 i2 i3 i4 i5 i6 : Nat} {b1 b2 b3 b4 b5 b6 : Bool} (hW : WantS ws sFun i false i1 b1) (hK : KindS ws (2 : Nat) i1 b1 nm i2 b2) (hO : WantS ws sOpen i2 b2 i3 b3) (hP : OutP ws en i3 b3 ns ts i4 b4) (hT : TypS ws i4 b4 t i5 b5) (hB : OutB ws en i5 b5 l i6 b6) :
    OutF ws en i { name := nm, names := ns, types := ts, out := t, body := l, pos := posAt ws i en } i6 b6 := by
  have after : ∀ {j : Nat} (b4' : Bool), b4 = true → i4 = j → b6 = true ∧ i6 = j := by
    intro j _ e1 e2
    subst e1; subst e2
    rcases typ_cases hT with ⟨e, _⟩ | ⟨e, _⟩ | ⟨_, rfl, rfl⟩
    · cases e
    · cases e
    · exact hB.2.1 rfl
  rcases want_cases hW with ⟨_, ha, rfl, rfl⟩ | ⟨_, ha, rfl, rfl⟩ | ⟨e, _⟩
  · rcases kind_cases (by decide) hK with ⟨_, hk, rfl, rfl, rfl⟩ | ⟨_, hk, rfl, rfl, rfl⟩ | ⟨e, _⟩
    · rcases want_cases hO with ⟨_, ho, rfl, rfl⟩ | ⟨_, ho, rfl, rfl⟩ | ⟨e, _⟩
      · have h3 := hP.1
        cases b4 with
        | true =>
          obtain ⟨rfl, rfl⟩ := after true rfl rfl
          exact ⟨by omega, by simp, fun _ => .par ha hk ho (hP.2.2.2 rfl rfl)⟩
        | false =>
          obtain ⟨h4, hp⟩ := hP.2.2.1 rfl rfl
          rcases typ_cases hT with ⟨_, ht, rfl, rfl⟩ | ⟨_, ht, rfl, hle⟩ | ⟨e, _⟩
          · have h5 := hB.1
            exact ⟨by omega, fun e => ⟨by omega, .fn ha hk ho hp ht (hB.2.2.1 rfl e).2⟩, fun e => .body ha hk ho hp ht (hB.2.2.2 rfl e)⟩
          · obtain ⟨rfl, rfl⟩ := hB.2.1 rfl
            exact ⟨by omega, by simp, fun _ => .typ ha hk ho hp ht⟩
          · cases e
      · obtain ⟨rfl, rfl⟩ := hP.2.1 rfl
        obtain ⟨rfl, rfl⟩ := after true rfl rfl
        exact ⟨by omega, by simp, fun _ => .noOpen ha hk ho⟩
      · cases e
    · rcases want_cases hO with ⟨e, _⟩ | ⟨e, _⟩ | ⟨_, rfl, rfl⟩
      · cases e
      · cases e
      · obtain ⟨rfl, rfl⟩ := hP.2.1 rfl
        obtain ⟨rfl, rfl⟩ := after true rfl rfl
        exact ⟨by omega, by simp, fun _ => .noName ha hk⟩
    · cases e
  · rcases kind_cases (by decide) hK with ⟨e, _⟩ | ⟨e, _⟩ | ⟨_, rfl, rfl, rfl⟩
    · cases e
    · cases e
    · rcases want_cases hO with ⟨e, _⟩ | ⟨e, _⟩ | ⟨_, rfl, rfl⟩
      · cases e
      · cases e
      · obtain ⟨rfl, rfl⟩ := hP.2.1 rfl
        obtain ⟨rfl, rfl⟩ := after true rfl rfl
        exact ⟨by omega, by simp, fun _ => .noFun ha⟩
  · cases e
end
/-- What functions have been read. -/
structure InU (ws : List Wd) (en : Nat) (l : List Fn) (i' : Nat) (b' : Bool) : Prop where
  len : l.length ≤ i' + (if b' then 1 else 0)
  okk : b' = false → (∀ m, Du ws en i' (.fns m) → Du ws en 0 (.fns (l ++ m))) ∧ (∀ j, Du ws en i' (.bad j) → Du ws en 0 (.bad j))
  bad : b' = true → Du ws en 0 (.bad i')
theorem InU.start (ws : List Wd) (en : Nat) : InU ws en [] 0 false := ⟨by simp, fun _ => ⟨fun _ h => h, fun _ h => h⟩, by simp⟩
theorem InU.step {ws : List Wd} {en i' i3 : Nat} {b3 : Bool} {l : List Fn} {f : Fn} (h : InU ws en l i' false) (hi : i' < ws.length) (hO : OutF ws en i' f i3 b3) : InU ws en (l ++ [f]) i3 b3 ∧ i' ≤ i3 ∧ (b3 = false → i' < i3) := by
  have h0 := hO.1
  have hlen := h.len
  simp only [Bool.false_eq_true, if_false, Nat.add_zero] at hlen
  cases b3 with
  | false =>
    obtain ⟨h1, h2⟩ := hO.2.1 rfl
    refine ⟨⟨by simp; omega, fun _ => ⟨fun m h' => ?_, fun j h' => (h.okk rfl).2 _ (.moreR hi h2 h')⟩, by simp⟩, h0, fun _ => h1⟩
    have := (h.okk rfl).1 _ (.more hi h2 h'); simpa using this
  | true => exact ⟨⟨by simp; omega, by simp, fun _ => (h.okk rfl).2 _ (.moreB hi (hO.2.2 rfl))⟩, h0, by simp⟩
end Go.Proofs.YtmngofgminlloaaGreatDoor

namespace Go.Proofs.YtmngofgminlloaaGreatDoor
open Go.RowKit Tw Go.Maps

theorem tab_law : Keyed Tryz.prog 3 := int_keyed Tryz.underlying3
theorem tab_zero (w : World) : (zeroValue 3).run Tryz.prog w = .ok (.int .i64 0) w := by kernel_rfl
theorem tab_key {k : Int} (h : (Lit.int .i64 k).wf = true) : keyOf Tryz.prog 3 (.int .i64 k) = some (.int .i64 k) := keyOf_int_mk Tryz.underlying3 h
abbrev TabD : Type := DataW Unit
def tabPut (D : TabD) (k v : Int) : TabD := D.put (.int .i64 k) (.lit (.int .i64 v))
def tabD : TabD := tabPut (tabPut (tabPut (tabPut (tabPut (tabPut (.map []) 1 0) 2 0) 3 0) 4 1) 5 1) 6 2
theorem tab_step {w : World} {b n : Nat} {D : TabD} (h : w.ownsMap Tryz.prog 3 (plainElem Tryz.prog 3) b n D) (hn : n < 100) (k v : Int) (hk : (Lit.int .i64 k).wf = true) (hv : (Lit.int .i64 v).wf = true) :
    ∃ w', (Instr.mapUpdate 207 (.map (some b)) (.int .i64 k) (.int .i64 v)).run Tryz.prog w = .ok () w' ∧ w'.ownsMap Tryz.prog 3 (plainElem Tryz.prog 3) b (n + 1) (tabPut D k v) ∧ w.grownBy w' (some b) :=
  h.update tab_law Tryz.underlying207 (by unfold maxLen; omega) (tab_key hk) (plainElem_int Tryz.underlying3 hv)
theorem tab_made (V : World) : ∃ w1 w2 w3 w4 w5 w6 : World,
    (Instr.mapUpdate 207 (.map (some V.heap.size)) (.int .i64 1) (.int .i64 0)).run Tryz.prog (V.alloc (.map #[] 0)) = .ok () w1 ∧
    (Instr.mapUpdate 207 (.map (some V.heap.size)) (.int .i64 2) (.int .i64 0)).run Tryz.prog w1 = .ok () w2 ∧
    (Instr.mapUpdate 207 (.map (some V.heap.size)) (.int .i64 3) (.int .i64 0)).run Tryz.prog w2 = .ok () w3 ∧
    (Instr.mapUpdate 207 (.map (some V.heap.size)) (.int .i64 4) (.int .i64 1)).run Tryz.prog w3 = .ok () w4 ∧
    (Instr.mapUpdate 207 (.map (some V.heap.size)) (.int .i64 5) (.int .i64 1)).run Tryz.prog w4 = .ok () w5 ∧
    (Instr.mapUpdate 207 (.map (some V.heap.size)) (.int .i64 6) (.int .i64 2)).run Tryz.prog w5 = .ok () w6 ∧
    w6.ownsMap Tryz.prog 3 (plainElem Tryz.prog 3) V.heap.size 6 tabD ∧ Below V.heap.size V w6 := by
  have h0 := World.ownsMap_made (H := Unit) V Tryz.prog 3 (plainElem Tryz.prog 3)
  obtain ⟨w1, r1, h1, g1⟩ := tab_step h0 (by decide) 1 0 (by decide) (by decide)
  obtain ⟨w2, r2, h2, g2⟩ := tab_step h1 (by decide) 2 0 (by decide) (by decide)
  obtain ⟨w3, r3, h3, g3⟩ := tab_step h2 (by decide) 3 0 (by decide) (by decide)
  obtain ⟨w4, r4, h4, g4⟩ := tab_step h3 (by decide) 4 1 (by decide) (by decide)
  obtain ⟨w5, r5, h5, g5⟩ := tab_step h4 (by decide) 5 1 (by decide) (by decide)
  obtain ⟨w6, r6, h6, g6⟩ := tab_step h5 (by decide) 6 2 (by decide) (by decide)
  refine ⟨w1, w2, w3, w4, w5, w6, r1, r2, r3, r4, r5, r6, h6, ?_⟩
  have hb : Below V.heap.size V (V.alloc (.map #[] 0)) := (Below.refl _ _).alloc (Nat.le_refl _) _
  have hg := grown_trans (grown_trans (grown_trans (grown_trans (grown_trans g1 g2) g3) g4) g5) g6
  exact ⟨hg.os.trans hb.os, hg.tape.trans hb.tape, hg.output.trans hb.output, Nat.le_trans hb.size hg.size, fun k hk => (hg.block k (Nat.lt_of_lt_of_le hk hb.size) (by simp; omega)).trans (hb.block k hk)⟩
theorem tab_look {w : World} {b : Nat} (h : w.ownsMap Tryz.prog 3 (plainElem Tryz.prog 3) b 6 tabD) (k : Int) (hk : (Lit.int .i64 k).wf = true) :
    ∃ c : Int, (Instr.lookup 207 (.map (some b)) (.int .i64 k) true).run Tryz.prog w = .ok (.tuple #[.int .i64 c, .bool (Maps.has tabD (.int .i64 k))]) w ∧ tabD.atKey (.int .i64 k) (.lit (.int .i64 0)) = .lit (.int .i64 c) := by
  obtain ⟨v, ps, hrun, hv⟩ := h.look_ok tab_law Tryz.underlying207 (tab_zero w) (plainElem_int Tryz.underlying3 (a := 0) (by decide)) (tab_key hk)
  obtain ⟨c, rfl, hc, _⟩ := plainElem_int_inv Tryz.underlying3 hv
  exact ⟨c, hrun, congrArg Prod.fst hc⟩
theorem tab_at {w : World} {b : Nat} (h : w.ownsMap Tryz.prog 3 (plainElem Tryz.prog 3) b 6 tabD) (k c : Int) (ok : Bool) (hk : (Lit.int .i64 k).wf = true) (hc : tabD.atKey (.int .i64 k) (.lit (.int .i64 0)) = .lit (.int .i64 c)) (ho : Maps.has tabD (.int .i64 k) = ok) :
    (Instr.lookup 207 (.map (some b)) (.int .i64 k) true).run Tryz.prog w = .ok (.tuple #[.int .i64 c, .bool ok]) w := by
  obtain ⟨c', hrun, hc'⟩ := tab_look h k hk
  have h2 : c = c' := (Lit.int.inj (DataW.lit.inj (hc.symm.trans hc'))).2
  subst h2
  subst ho
  exact hrun
theorem tab_1 : tabD.atKey (.int .i64 1) (.lit (.int .i64 0)) = .lit (.int .i64 0) ∧ Maps.has tabD (.int .i64 1) = true := ⟨by kernel_rfl, by kernel_rfl⟩
theorem tab_2 : tabD.atKey (.int .i64 2) (.lit (.int .i64 0)) = .lit (.int .i64 0) ∧ Maps.has tabD (.int .i64 2) = true := ⟨by kernel_rfl, by kernel_rfl⟩
theorem tab_3 : tabD.atKey (.int .i64 3) (.lit (.int .i64 0)) = .lit (.int .i64 0) ∧ Maps.has tabD (.int .i64 3) = true := ⟨by kernel_rfl, by kernel_rfl⟩
theorem tab_4 : tabD.atKey (.int .i64 4) (.lit (.int .i64 0)) = .lit (.int .i64 1) ∧ Maps.has tabD (.int .i64 4) = true := ⟨by kernel_rfl, by kernel_rfl⟩
theorem tab_5 : tabD.atKey (.int .i64 5) (.lit (.int .i64 0)) = .lit (.int .i64 1) ∧ Maps.has tabD (.int .i64 5) = true := ⟨by kernel_rfl, by kernel_rfl⟩
theorem tab_6 : tabD.atKey (.int .i64 6) (.lit (.int .i64 0)) = .lit (.int .i64 2) ∧ Maps.has tabD (.int .i64 6) = true := ⟨by kernel_rfl, by kernel_rfl⟩
theorem tab_7 : tabD.atKey (.int .i64 7) (.lit (.int .i64 0)) = .lit (.int .i64 0) ∧ Maps.has tabD (.int .i64 7) = false := ⟨by kernel_rfl, by kernel_rfl⟩
theorem tab_8 : tabD.atKey (.int .i64 8) (.lit (.int .i64 0)) = .lit (.int .i64 0) ∧ Maps.has tabD (.int .i64 8) = false := ⟨by kernel_rfl, by kernel_rfl⟩
end Go.Proofs.YtmngofgminlloaaGreatDoor

namespace Go.Proofs.YtmngofgminlloaaGreatDoor
open Go.RowKit Tw

theorem lv_le5 (s : Bs) : lv s ≤ 5 := by unfold lv; repeat' (first | omega | split)
set_option maxHeartbeats 4000000 in
theorem bind_c (t : ByteArray) (w : World) (hg : Glob w) : Calls Tryz.prog 161 #[.string t] w fun e w' => e = .returned (.int .i64 (lv t.data.toList)) ∧ Below w.heap.size w w' := by
  have HG := Lib.hid hg; clear hg
  go_enter Tryz.func161, Tryz.ntmps161
  go_wp2_with fail
  go_loopw [3] (fun i wr => ∃ n : Nat, 1 ≤ n ∧ n ≤ 6 ∧ i = .int .i64 n ∧ Hid (∀ m, 1 ≤ m → m < n → lv t.data.toList ≠ m) ∧ Hid (Below w.heap.size w wr)) (fun i _ => 6 - (intOf i).toNat)
  case atStart => exact ⟨1, by omega, by omega, rfl, Lib.hid (fun m a b => by omega), Lib.hid (Below.refl _ _)⟩
  case round =>
    obtain ⟨n, h1, h6, rfl, HN, HB⟩ := hrel
    by_cases h5 : n ≤ 5
    · have h5' : (n : Int) ≤ 5 := by omega
      obtain ⟨b, hb⟩ : ∃ b, (lv t.data.toList == n) = b := ⟨_, rfl⟩
      have HT := Lib.hid hb; clear hb
      go_wp2_with fail
      refine (signs_c n h1 h5 wr (HG.out.to HB.out)).mono ?_
      rintro e w1 ⟨⟨g, rfl, hc⟩, hb1⟩
      have HC := Lib.hid hc; have HB1 := Lib.hid (HB.out.trans (hb1.mono HB.out.size))
      clear hc hb1
      go_wp2_with fail
      refine (contains_c n h1 h5 g t _ HC.out b HT.out).mono ?_
      rintro e w2 ⟨rfl, rfl⟩
      cases b with
      | true =>
        go_wp2_with fail
        go_ret
        exact ⟨by rw [beq_iff_eq.1 HT.out]; rfl, HB1.out⟩
      | false =>
        go_wp2_with fail
        go_roundw
        case rel => exact ⟨n + 1, by omega, by omega, by go_num, Lib.hid (fun m a b => by
          rcases Nat.lt_or_ge m n with h | h
          · exact HN.out m a h
          · obtain rfl : m = n := by omega
            exact beq_eq_false_iff_ne.1 HT.out), HB1⟩
        case measure => simp [intOf]; omega
    · have h5' : ¬ (n : Int) ≤ 5 := by omega
      have hz : lv t.data.toList = 0 := by
        have := lv_le5 t.data.toList
        rcases Nat.eq_zero_or_pos (lv t.data.toList) with h | h
        · exact h
        · exact absurd rfl (HN.out _ h (by omega))
      have HZ := Lib.hid hz; clear hz
      go_wp2_with fail
      go_ret
      exact ⟨by rw [HZ.out]; rfl, HB.out⟩
end Go.Proofs.YtmngofgminlloaaGreatDoor

namespace Go.Proofs.YtmngofgminlloaaGreatDoor
open Go.RowKit Tw

def nameB (s : ByteArray) : Bool := isName s.data.toList
/-- Is an expression of this kind, number, text and number of arguments well formed? -/
def okEx (k n : Int) (t : ByteArray) (len : Nat) : Bool :=
  if k = 1 then decide (0 ≤ n) && decide (n ≤ 999999999999) && decide (len = 0)
  else if k = 2 then (decide (n = 0) || decide (n = 1)) && decide (len = 0)
  else if k = 3 then nameB t && decide (len = 0)
  else if k = 4 ∨ k = 5 then decide (len = 1)
  else if k = 6 then decide (len = 2) && decide (lv t.data.toList ≠ 0)
  else if k = 7 then nameB t
  else if k = 8 then decide (0 ≤ n)
  else false
/-- What is wrong with an expression's head: its number; none: go on with its arguments. -/
def headF (k n : Int) (t : ByteArray) (len left : Nat) : Option Int :=
  if left = 0 then some 2
  else if okEx k n t len = false then some 3
  else if 6 < len ∨ (k = 8 ∧ 15 < n) then some 2
  else none
mutual
def exF : Ex → Nat → Int
  | .mk k n t xs _, left => match headF k n t xs.length left with | some e => e | none => exsF xs (left - 1)
def exsF : List Ex → Nat → Int
  | [], _ => 0
  | a :: l, left => if exF a left = 0 then exsF l left else exF a left
end
mutual
def smF : Sm → Nat → Int
  | .mk k nm a body els _, left =>
    if left = 0 then 2
    else if k < 1 ∨ 7 < k ∨ (k ≤ 2 ∧ nameB nm = false) then 3
    else if exF a (left - 1) ≠ 0 then exF a (left - 1)
    else if (k = 3 ∨ k = 4) ∧ smsF body (left - 1) ≠ 0 then smsF body (left - 1)
    else if k = 3 then smsF els (left - 1) else 0
def smsF : List Sm → Nat → Int
  | [], _ => 0
  | s :: l, left => if smF s left = 0 then smsF l left else smF s left
end
def typB (t : Int) : Bool := decide (t = 1) || decide (t = 2)
def fnF (f : Fn) : Int :=
  if 6 < f.names.length then 2
  else if (decide (f.names.length = f.types.length) && nameB f.name && typB f.out && f.names.all nameB && f.types.all typB) = false then 3
  else smsF f.body 40
def fnsF : List Fn → Int
  | [] => 0
  | f :: l => if fnF f = 0 then fnsF l else fnF f
def unitF (l : List Fn) : Int := if 16 < l.length then 2 else fnsF l

section
variable {k n : Int} {t : ByteArray} {L left : Nat}
theorem headF_3 (h : 1 ≤ left) (ho : okEx k n t L = false) : headF k n t L left = some 3 := by
  unfold headF; rw [if_neg (by omega), if_pos ho]
theorem headF_2 (h : 1 ≤ left) (ho : okEx k n t L = true) (hb : 6 < L ∨ (k = 8 ∧ 15 < n)) : headF k n t L left = some 2 := by
  unfold headF; rw [if_neg (by omega), if_neg (by rw [ho]; decide), if_pos hb]
theorem headF_0 (h : 1 ≤ left) (ho : okEx k n t L = true) (hb : ¬ (6 < L ∨ (k = 8 ∧ 15 < n))) : headF k n t L left = none := by
  unfold headF; rw [if_neg (by omega), if_neg (by rw [ho]; decide), if_neg hb]
theorem ok1 : okEx 1 n t L = (decide (0 ≤ n) && decide (n ≤ 999999999999) && decide (L = 0)) := by simp [okEx]
theorem ok2 : okEx 2 n t L = ((decide (n = 0) || decide (n = 1)) && decide (L = 0)) := by simp [okEx]
theorem ok3 : okEx 3 n t L = (nameB t && decide (L = 0)) := by simp [okEx]
theorem ok4 : okEx 4 n t L = decide (L = 1) := by simp [okEx]
theorem ok5 : okEx 5 n t L = decide (L = 1) := by simp [okEx]
theorem ok6 : okEx 6 n t L = (decide (L = 2) && decide (lv t.data.toList ≠ 0)) := by simp [okEx]
theorem ok7 : okEx 7 n t L = nameB t := by simp [okEx]
theorem ok8 : okEx 8 n t L = decide (0 ≤ n) := by simp [okEx]
theorem oko (h : k < 1 ∨ 8 < k) : okEx k n t L = false := by
  unfold okEx
  rw [if_neg (by omega), if_neg (by omega), if_neg (by omega), if_neg (by omega), if_neg (by omega), if_neg (by omega), if_neg (by omega)]
end

/-- Behind k arguments that are right. -/
theorem exsF_at {l : List Ex} {left : Nat} {k : Nat} (h : exsF (l.take k) left = 0) : exsF l left = exsF (l.drop k) left := by
  induction k generalizing l with
  | zero => simp
  | succ k ih =>
    cases l with
    | nil => simp
    | cons a l =>
      simp only [List.take_succ_cons, List.drop_succ_cons] at *
      rw [exsF] at h ⊢
      split at h
      · rename_i h0; rw [if_pos h0]; exact ih h
      · rename_i h0; exact absurd h h0
theorem exsF_snoc {l : List Ex} {left k : Nat} {x : Ex} (hx : l[k]? = some x) (h : exsF (l.take k) left = 0) (h0 : exF x left = 0) : exsF (l.take (k + 1)) left = 0 := by
  have hk : k < l.length := by rcases Nat.lt_or_ge k l.length with h | h; exact h; rw [List.getElem?_eq_none h] at hx; cases hx
  have e : exsF (l.take (k + 1)) left = exsF ((l.take (k + 1)).drop k) left := exsF_at (by rw [List.take_take, Nat.min_eq_left (by omega)]; exact h)
  rw [e, List.drop_take, show k + 1 - k = 1 by omega, List.drop_eq_getElem_cons hk]
  have : l[k] = x := by rw [List.getElem?_eq_getElem hk] at hx; exact Option.some.inj hx
  rw [this, List.take_succ_cons, List.take_zero, exsF, if_pos h0, exsF]
theorem exsF_hit {l : List Ex} {left k : Nat} {x : Ex} (hx : l[k]? = some x) (h : exsF (l.take k) left = 0) (h0 : exF x left ≠ 0) : exsF l left = exF x left := by
  have hk : k < l.length := by rcases Nat.lt_or_ge k l.length with h | h; exact h; rw [List.getElem?_eq_none h] at hx; cases hx
  have : l[k] = x := by rw [List.getElem?_eq_getElem hk] at hx; exact Option.some.inj hx
  rw [exsF_at h, List.drop_eq_getElem_cons hk, this, exsF, if_neg h0]
theorem smsF_at {l : List Sm} {left : Nat} {k : Nat} (h : smsF (l.take k) left = 0) : smsF l left = smsF (l.drop k) left := by
  induction k generalizing l with
  | zero => simp
  | succ k ih =>
    cases l with
    | nil => simp
    | cons a l =>
      simp only [List.take_succ_cons, List.drop_succ_cons] at *
      rw [smsF] at h ⊢
      split at h
      · rename_i h0; rw [if_pos h0]; exact ih h
      · rename_i h0; exact absurd h h0
theorem smsF_snoc {l : List Sm} {left k : Nat} {x : Sm} (hx : l[k]? = some x) (h : smsF (l.take k) left = 0) (h0 : smF x left = 0) : smsF (l.take (k + 1)) left = 0 := by
  have hk : k < l.length := by rcases Nat.lt_or_ge k l.length with h | h; exact h; rw [List.getElem?_eq_none h] at hx; cases hx
  have e : smsF (l.take (k + 1)) left = smsF ((l.take (k + 1)).drop k) left := smsF_at (by rw [List.take_take, Nat.min_eq_left (by omega)]; exact h)
  rw [e, List.drop_take, show k + 1 - k = 1 by omega, List.drop_eq_getElem_cons hk]
  have : l[k] = x := by rw [List.getElem?_eq_getElem hk] at hx; exact Option.some.inj hx
  rw [this, List.take_succ_cons, List.take_zero, smsF, if_pos h0, smsF]
theorem smsF_hit {l : List Sm} {left k : Nat} {x : Sm} (hx : l[k]? = some x) (h : smsF (l.take k) left = 0) (h0 : smF x left ≠ 0) : smsF l left = smF x left := by
  have hk : k < l.length := by rcases Nat.lt_or_ge k l.length with h | h; exact h; rw [List.getElem?_eq_none h] at hx; cases hx
  have : l[k] = x := by rw [List.getElem?_eq_getElem hk] at hx; exact Option.some.inj hx
  rw [smsF_at h, List.drop_eq_getElem_cons hk, this, smsF, if_neg h0]
theorem fnsF_at {l : List Fn} {k : Nat} (h : fnsF (l.take k) = 0) : fnsF l = fnsF (l.drop k) := by
  induction k generalizing l with
  | zero => simp
  | succ k ih =>
    cases l with
    | nil => simp
    | cons a l =>
      simp only [List.take_succ_cons, List.drop_succ_cons] at *
      rw [fnsF] at h ⊢
      split at h
      · rename_i h0; rw [if_pos h0]; exact ih h
      · rename_i h0; exact absurd h h0
theorem fnsF_snoc {l : List Fn} {k : Nat} {x : Fn} (hx : l[k]? = some x) (h : fnsF (l.take k) = 0) (h0 : fnF x = 0) : fnsF (l.take (k + 1)) = 0 := by
  have hk : k < l.length := by rcases Nat.lt_or_ge k l.length with h | h; exact h; rw [List.getElem?_eq_none h] at hx; cases hx
  have e : fnsF (l.take (k + 1)) = fnsF ((l.take (k + 1)).drop k) := fnsF_at (by rw [List.take_take, Nat.min_eq_left (by omega)]; exact h)
  rw [e, List.drop_take, show k + 1 - k = 1 by omega, List.drop_eq_getElem_cons hk]
  have : l[k] = x := by rw [List.getElem?_eq_getElem hk] at hx; exact Option.some.inj hx
  rw [this, List.take_succ_cons, List.take_zero, fnsF, if_pos h0, fnsF]
theorem fnsF_hit {l : List Fn} {k : Nat} {x : Fn} (hx : l[k]? = some x) (h : fnsF (l.take k) = 0) (h0 : fnF x ≠ 0) : fnsF l = fnF x := by
  have hk : k < l.length := by rcases Nat.lt_or_ge k l.length with h | h; exact h; rw [List.getElem?_eq_none h] at hx; cases hx
  have : l[k] = x := by rw [List.getElem?_eq_getElem hk] at hx; exact Option.some.inj hx
  rw [fnsF_at h, List.drop_eq_getElem_cons hk, this, fnsF, if_neg h0]

/-- Sizes that Go's memory has. -/
inductive ExZ : Ex → Prop
  | mk {k n : Int} {t : ByteArray} {xs : List Ex} {p : Int} : (Lit.int .i64 k).wf = true → t.size ≤ maxLen → xs.length ≤ 281474976710656 → (∀ a ∈ xs, ExZ a) → ExZ (.mk k n t xs p)
inductive SmZ : Sm → Prop
  | mk {k : Int} {nm : ByteArray} {a : Ex} {body els : List Sm} {p : Int} : nm.size ≤ maxLen → ExZ a → body.length ≤ 281474976710656 → els.length ≤ 281474976710656 → (∀ s ∈ body, SmZ s) → (∀ s ∈ els, SmZ s) → SmZ (.mk k nm a body els p)
structure FnZ (f : Fn) : Prop where
  name : f.name.size ≤ maxLen
  names : ∀ n ∈ f.names, n.size ≤ maxLen
  nlen : f.names.length ≤ 281474976710656
  tlen : f.types.length ≤ 281474976710656
  blen : f.body.length ≤ 281474976710656
  body : ∀ s ∈ f.body, SmZ s
theorem ExZ.args {x : Ex} (h : ExZ x) : x.text.size ≤ maxLen ∧ x.args.length ≤ 281474976710656 ∧ ∀ a ∈ x.args, ExZ a := by
  cases h with | mk _ h1 h2 h3 => exact ⟨h1, h2, h3⟩
theorem ExZ.kwf {x : Ex} (h : ExZ x) : (Lit.int .i64 x.kind).wf = true := by
  cases h with | mk h _ _ _ => exact h
theorem SmZ.parts {s : Sm} (h : SmZ s) : s.name.size ≤ maxLen ∧ ExZ s.a ∧ s.body.length ≤ 281474976710656 ∧ s.els.length ≤ 281474976710656 ∧ (∀ q ∈ s.body, SmZ q) ∧ (∀ q ∈ s.els, SmZ q) := by
  cases h with | mk h1 h2 h3 h4 h5 h6 => exact ⟨h1, h2, h3, h4, h5, h6⟩
end Go.Proofs.YtmngofgminlloaaGreatDoor

namespace Go.Proofs.YtmngofgminlloaaGreatDoor
open Go.RowKit Tw Go.Shelf

theorem ext1 (s : ByteArray) (h : 0 < s.size) : (s.extract 0 1).data.toList = [s[0]] := by
  rw [data_ext, List.drop_zero]
  have := drop_head s 0 h
  rw [List.drop_zero] at this
  rw [this]; rfl
theorem in_A (s : ByteArray) (t : Bool) (w : World) (hs : s.size ≤ 9223372036854775807) (ht : s.data.toList.all isA = t) :
    Calls Tryz.prog 74 #[.string s, .string ⟨#[97, 98, 99, 100, 101, 102, 103, 104, 105, 106, 107, 108, 109, 110, 111, 112, 113, 114, 115, 116, 117, 118, 119, 120, 121, 122, 95, 48, 49, 50, 51, 52, 53, 54, 55, 56, 57]⟩] w fun e w' => e = .returned (.bool t) ∧ Below w.heap.size w w' :=
  in_c _ _ t w hs (by decide) (ascii_of_all (by decide)) (by
    rw [← ht]
    have : (fun x => (ByteArray.data ⟨#[97, 98, 99, 100, 101, 102, 103, 104, 105, 106, 107, 108, 109, 110, 111, 112, 113, 114, 115, 116, 117, 118, 119, 120, 121, 122, 95, 48, 49, 50, 51, 52, 53, 54, 55, 56, 57]⟩).toList.contains x) = isA := funext setA_eq
    rw [this])
theorem in_L (s : ByteArray) (h : 0 < s.size) (t : Bool) (w : World) (ht : isL s[0] = t) :
    Calls Tryz.prog 74 #[.string (s.extract 0 1), .string ⟨#[97, 98, 99, 100, 101, 102, 103, 104, 105, 106, 107, 108, 109, 110, 111, 112, 113, 114, 115, 116, 117, 118, 119, 120, 121, 122, 95]⟩] w fun e w' => e = .returned (.bool t) ∧ Below w.heap.size w w' :=
  in_c _ _ t w (by simp; omega) (by decide) (ascii_of_all (by decide)) (by rw [ext1 s h]; simp only [List.all_cons, List.all_nil, Bool.and_true]; exact (setL_eq _).trans ht)

set_option maxHeartbeats 1000000 in
theorem nameOK_any (s : ByteArray) (w : World) (hs : s.size ≤ maxLen) (hm : MaxLenAt w) (hz : 5 < w.heap.size) :
    Calls Tryz.prog 47 #[.string s] w fun e w' => e = .returned (.bool (isName s.data.toList)) ∧ Below w.heap.size w w' := by
  unfold maxLen at hs
  have HM := Lib.hid hm; clear hm
  have HZ := Lib.hid hz; clear hz
  by_cases h1 : 1 ≤ s.size
  case neg =>
    have hh : isName s.data.toList = false := by simp [isName]; omega
    have HH := Lib.hid hh; clear hh
    have he : s.toList.isEmpty = true := by
      rw [ByteArray.toList_eq, List.isEmpty_iff]; exact List.eq_nil_of_length_eq_zero (by rw [size_len]; omega)
    have he' : s.toList = [] := by simpa using he
    go_enter Tryz.func47, Tryz.ntmps47
    go_wp2_with fail
    go_ret; exact ⟨ret_of HH.out, Below.refl _ _⟩
  have he : s.toList.isEmpty = false := by
    rw [ByteArray.toList_eq]
    cases hx : s.data.toList with
    | nil => have := size_len s; rw [hx] at this; simp at this; omega
    | cons a l => rfl
  by_cases h2 : s.size ≤ 16
  case neg =>
    have hh : isName s.data.toList = false := by simp [isName]; omega
    have HH := Lib.hid hh; clear hh
    go_enter Tryz.func47, Tryz.ntmps47
    go_wp2_with fail
    go_ret; exact ⟨ret_of HH.out, Below.refl _ _⟩
  have hd := Lib.hid (head_get s h1)
  cases h3 : s.data.toList.all isA
  case false =>
    have hh : isName s.data.toList = false := by simp only [isName, h3]; simp
    have HH := Lib.hid hh; have H3 := Lib.hid h3; clear hh h3
    go_enter Tryz.func47, Tryz.ntmps47
    go_wp2_with fail
    refine (in_A s false _ (by omega) H3.out).mono ?_
    rintro e w1 ⟨rfl, hb1⟩
    have HB1 := Lib.hid hb1; clear hb1
    go_wp2_with fail
    go_ret; exact ⟨ret_of HH.out, HB1.out⟩
  cases h4 : isL s[0]
  case false =>
    have hh : isName s.data.toList = false := by simp only [isName, hd.out, h4]; simp
    have HH := Lib.hid hh; have H3 := Lib.hid h3; have H4 := Lib.hid h4; clear hh h3 h4
    go_enter Tryz.func47, Tryz.ntmps47
    go_wp2_with fail
    refine (in_A s true _ (by omega) H3.out).mono ?_
    rintro e w1 ⟨rfl, hb1⟩
    have HB1 := Lib.hid hb1; clear hb1
    go_wp2_with fail
    refine (in_L s h1 false _ H4.out).mono ?_
    rintro e w2 ⟨rfl, hb2⟩
    have HB2 := Lib.hid (HB1.out.trans (hb2.mono HB1.out.size)); clear hb2
    go_wp2_with fail
    go_ret; exact ⟨ret_of HH.out, HB2.out⟩
  have hk : ∀ t, isKey s.data.toList = t → isName s.data.toList = !t := by
    intro t ht
    simp only [isName, hd.out, h3, h4, ht, size_len, h1, h2]
    simp
  have HK := Lib.hid hk; have H3 := Lib.hid h3; have H4 := Lib.hid h4; clear hk h3 h4
  obtain ⟨t, ht⟩ : ∃ t, isKey s.data.toList = t := ⟨_, rfl⟩
  have HT := Lib.hid ht; clear ht
  go_enter Tryz.func47, Tryz.ntmps47
  go_wp2_with fail
  refine (in_A s true _ (by omega) H3.out).mono ?_
  rintro e w1 ⟨rfl, hb1⟩
  have HB1 := Lib.hid hb1; clear hb1
  go_wp2_with fail
  refine (in_L s h1 true _ H4.out).mono ?_
  rintro e w2 ⟨rfl, hb2⟩
  have HB2 := Lib.hid (HB1.out.trans (hb2.mono HB1.out.size)); clear hb2
  go_wp2_with fail
  refine (key_c s t _ H3.out HT.out (HM.out.below HB2.out (by have := HZ.out; show 2 < _; omega))).mono ?_
  rintro e w3 ⟨rfl, rfl⟩
  go_wp2_with fail
  go_ret; exact ⟨ret_of (HK.out t HT.out), HB2.out⟩

end Go.Proofs.YtmngofgminlloaaGreatDoor

namespace Go.Proofs.YtmngofgminlloaaGreatDoor
open Go.RowKit Tw Go.Maps

theorem ArgsIn.form {w : World} {F : Nat → Prop} {v : Value} {l : List Ex} (h : ArgsIn w F v l) : ∃ A c, v = .slice A l.length c := by
  cases h with
  | nil a c => exact ⟨a, c, rfl⟩
  | row g off cap => exact ⟨_, cap, rfl⟩
/-- What the argument k of a row reads. -/
theorem ArgsIn.at {w : World} {F : Nat → Prop} {A : Option Addr} {c : Nat} {l : List Ex} (h : ArgsIn w F (.slice A l.length c) l) (k : Nat) (x : Ex) (hx : l[k]? = some x) :
    ∃ g off A' c', A = some ⟨g, off, none⟩ ∧ F g ∧ g < w.heap.size ∧ ArgsIn w F (.slice A' x.args.length c') x.args ∧ w.cell? ⟨g, off + k * 5, none⟩ = some (.int .i64 x.kind) ∧ w.cell? ⟨g, off + k * 5 + 1, none⟩ = some (.int .i64 x.n) ∧ w.cell? ⟨g, off + k * 5 + 2, none⟩ = some (.string x.text) ∧ w.cell? ⟨g, off + k * 5 + 3, none⟩ = some (.slice A' x.args.length c') ∧ w.cell? ⟨g, off + k * 5 + 4, none⟩ = some (.int .i64 x.pos) := by
  generalize hv : Value.slice A l.length c = v at h
  cases h with
  | nil a c' => simp at hx
  | row g off cap _ vs hF hg hc hr =>
    injection hv with e1 e2 e3
    obtain ⟨A', c', hA⟩ := (hr k x hx).form
    have hcx := hc k x hx
    have hrx := hr k x hx
    rw [hA] at hcx hrx
    exact ⟨g, off, A', c', e1, hF, hg, hrx, hcx 0 _ rfl, hcx 1 _ rfl, hcx 2 _ rfl, hcx 3 _ rfl, hcx 4 _ rfl⟩
theorem nameOK_b (s : ByteArray) (t : Bool) (ht : nameB s = t) (w : World) (hs : s.size ≤ maxLen) (hG : Glob w) : Calls Tryz.prog 47 #[.string s] w fun e w' => e = .returned (.bool t) ∧ Below w.heap.size w w' := by
  have h := nameOK_any s w hs hG.maxLen (by have := hG.big; omega)
  rw [show isName s.data.toList = t from ht] at h
  exact h
def ExF (left : Nat) : Prop :=
  ∀ (li : Int), li = left → ∀ (x : Ex) (A : Option Addr) (c : Nat) (F : Nat → Prop) (w : World), ArgsIn w F (.slice A x.args.length c) x.args → ExZ x → Glob w →
    Calls Tryz.prog 102 #[.agg #[.int .i64 x.kind, .int .i64 x.n, .string x.text, .slice A x.args.length c, .int .i64 x.pos], .int .i64 li] w fun e w' => e = .returned (.int .i64 (exF x left)) ∧ Below w.heap.size w w'
end Go.Proofs.YtmngofgminlloaaGreatDoor

namespace Go.Proofs.YtmngofgminlloaaGreatDoor
open Go.RowKit Tw Go.Maps

set_option maxRecDepth 100000 in
set_option maxHeartbeats 8000000 in
theorem exF_k1 (left : Nat) (h1 : 1 ≤ left) (h40 : left ≤ 40) (ih : ExF (left - 1)) (n : Int) (t : ByteArray) (xs : List Ex) (p : Int) (A : Option Addr) (c : Nat) (F : Nat → Prop) (w : World) (hA : ArgsIn w F (.slice A xs.length c) xs) (hZ : ExZ (.mk 1 n t xs p)) (hG : Glob w) :
    Calls Tryz.prog 102 #[.agg #[.int .i64 1, .int .i64 n, .string t, .slice A xs.length c, .int .i64 p], .int .i64 left] w fun e w' => e = .returned (.int .i64 (exF (.mk 1 n t xs p) left)) ∧ Below w.heap.size w w' := by
  have HA := Lib.hid hA; have HZ := Lib.hid hZ; have HG := Lib.hid hG; have IH := Lib.hid ih
  obtain ⟨w1, w2, w3, w4, w5, w6, r1, r2, r3, r4, r5, r6, hown, hb6⟩ := tab_made (w.alloc (.cells #[.int .i64 1, .int .i64 n, .string t, .slice A xs.length c, .int .i64 p] 186))
  have hm : (w.alloc (.cells #[.int .i64 1, .int .i64 n, .string t, .slice A xs.length c, .int .i64 p] 186)).heap.size = w.heap.size + 1 := by simp
  rw [hm] at r1 r2 r3 r4 r5 r6 hown
  have hx6 : w6.heap[w.heap.size]? = some (.cells #[.int .i64 1, .int .i64 n, .string t, .slice A xs.length c, .int .i64 p] 186 (0, 0)) := (hb6.block _ (by simp)).trans (heap_alloc_new w _)
  have HB6 := Lib.hid (((Below.refl w.heap.size w).alloc (Nat.le_refl _) (.cells #[.int .i64 1, .int .i64 n, .string t, .slice A xs.length c, .int .i64 p] 186)).trans (hb6.mono (by simp)))
  have lk := tab_at hown 1 0 true (by decide) tab_1.1 tab_1.2
  have HX6 := Lib.hid hx6
  have HG6 := Lib.hid (HG.out.to HB6.out)
  obtain ⟨⟨c0, c1, c2, c3, c4⟩, -⟩ := facts5 hx6
  have hs6 : w.heap.size < w6.heap.size := lt_of_some hx6
  have hzt : t.size ≤ maxLen := HZ.out.args.1
  have hzl : xs.length ≤ 281474976710656 := HZ.out.args.2.1
  have HZT := Lib.hid hzt
  obtain ⟨bn, hbn⟩ : ∃ b, nameB t = b := ⟨_, rfl⟩
  obtain ⟨m, hm2⟩ : ∃ m, lv t.data.toList = m := ⟨_, rfl⟩
  have HN := Lib.hid hbn; have HM := Lib.hid hm2
  have NC := Lib.hid (nameOK_b t bn hbn w6 hzt HG6.out)
  have BC : Hid (Calls Tryz.prog 161 #[.string t] w6 fun e w' => e = .returned (.int .i64 m) ∧ Below w6.heap.size w6 w') := Lib.hid (by rw [← hm2]; exact bind_c t w6 HG6.out)
  clear hA hZ hG ih hm hown hx6 hb6 hbn hm2 hzt
  have hl1 : (1 : Int) ≤ (left : Int) := by omega
  have hmm := @run_makeMap Tryz.prog
  by_cases hx0 : xs = []
  · subst hx0
    simp only [List.length_nil] at *
    go_enter Tryz.func102, Tryz.ntmps102
    go_wp2_with (first | (go_at_call 161; refine BC.out.mono ?_; rintro e w7 ⟨rfl, hb7⟩; have d3 := (hb7.cell (p := ⟨w.heap.size, 3, none⟩) hs6).trans c3; have d1 := (hb7.cell (p := ⟨w.heap.size, 1, none⟩) hs6).trans c1; have d0 := (hb7.cell (p := ⟨w.heap.size, 0, none⟩) hs6).trans c0) | (go_at_call 47; refine NC.out.mono ?_; rintro e w7 ⟨rfl, hb7⟩; have d3 := (hb7.cell (p := ⟨w.heap.size, 3, none⟩) hs6).trans c3; have d1 := (hb7.cell (p := ⟨w.heap.size, 1, none⟩) hs6).trans c1; have d0 := (hb7.cell (p := ⟨w.heap.size, 0, none⟩) hs6).trans c0))
    all_goals try (go_ret; (try simp only [beq_iff_eq, beq_eq_false_iff_ne, ne_eq, List.length_nil] at *); exact ⟨by rw [exF, headF_3 h1 (by rw [ok1] <;> first | rfl | (simp only [Bool.true_and, Bool.false_and, Bool.and_eq_true, Bool.or_eq_true, Bool.and_eq_false_iff, Bool.or_eq_false_iff, decide_eq_true_eq, decide_eq_false_iff_not, ne_eq, List.length_nil, and_true, true_and]; omega))]; rfl, by first | exact HB6.out | exact HB6.out.trans (hb7.mono HB6.out.size)⟩)
    all_goals
      have HH : Hid (headF 1 n t ([] : List Ex).length left = none) := Lib.hid (by
        (try simp only [beq_iff_eq, beq_eq_false_iff_ne, ne_eq] at *)
        exact headF_0 h1 (by rw [ok1] <;> first | rfl | (simp only [Bool.true_and, Bool.false_and, Bool.and_eq_true, Bool.or_eq_true, Bool.and_eq_false_iff, Bool.or_eq_false_iff, decide_eq_true_eq, decide_eq_false_iff_not, ne_eq, List.length_nil, and_true, true_and]; omega)) (by simp))
      go_loopw [122] (fun i wr => i = .int .i64 0 ∧ Hid (Below w.heap.size w wr)) (fun _ _ => 0)
      case atStart => exact ⟨rfl, by first | exact HB6 | exact Lib.hid (HB6.out.trans (hb7.mono HB6.out.size))⟩
      case round =>
        obtain ⟨rfl, HB⟩ := hrel
        go_wp2_with fail
        go_ret
        exact ⟨by rw [exF, HH.out, exsF]; rfl, HB.out⟩
  · have hx1 : 0 < xs.length := List.length_pos_iff.2 hx0
    clear hx0
    go_enter Tryz.func102, Tryz.ntmps102
    go_wp2_with (first | (go_at_call 161; refine BC.out.mono ?_; rintro e w7 ⟨rfl, hb7⟩; have d3 := (hb7.cell (p := ⟨w.heap.size, 3, none⟩) hs6).trans c3; have d1 := (hb7.cell (p := ⟨w.heap.size, 1, none⟩) hs6).trans c1; have d0 := (hb7.cell (p := ⟨w.heap.size, 0, none⟩) hs6).trans c0) | (go_at_call 47; refine NC.out.mono ?_; rintro e w7 ⟨rfl, hb7⟩; have d3 := (hb7.cell (p := ⟨w.heap.size, 3, none⟩) hs6).trans c3; have d1 := (hb7.cell (p := ⟨w.heap.size, 1, none⟩) hs6).trans c1; have d0 := (hb7.cell (p := ⟨w.heap.size, 0, none⟩) hs6).trans c0))
    all_goals (go_ret; generalize hL : xs.length = L at *; (try simp only [beq_iff_eq, beq_eq_false_iff_ne, ne_eq] at *); exact ⟨by rw [exF, hL, headF_3 h1 (by rw [ok1] <;> first | rfl | (simp only [Bool.true_and, Bool.false_and, Bool.and_eq_true, Bool.or_eq_true, Bool.and_eq_false_iff, Bool.or_eq_false_iff, decide_eq_true_eq, decide_eq_false_iff_not, ne_eq, List.length_nil, and_true, true_and]; omega))]; rfl, by first | exact HB6.out | exact HB6.out.trans (hb7.mono HB6.out.size)⟩)

set_option maxRecDepth 100000 in
set_option maxHeartbeats 8000000 in
theorem exF_k2 (left : Nat) (h1 : 1 ≤ left) (h40 : left ≤ 40) (ih : ExF (left - 1)) (n : Int) (t : ByteArray) (xs : List Ex) (p : Int) (A : Option Addr) (c : Nat) (F : Nat → Prop) (w : World) (hA : ArgsIn w F (.slice A xs.length c) xs) (hZ : ExZ (.mk 2 n t xs p)) (hG : Glob w) :
    Calls Tryz.prog 102 #[.agg #[.int .i64 2, .int .i64 n, .string t, .slice A xs.length c, .int .i64 p], .int .i64 left] w fun e w' => e = .returned (.int .i64 (exF (.mk 2 n t xs p) left)) ∧ Below w.heap.size w w' := by
  have HA := Lib.hid hA; have HZ := Lib.hid hZ; have HG := Lib.hid hG; have IH := Lib.hid ih
  obtain ⟨w1, w2, w3, w4, w5, w6, r1, r2, r3, r4, r5, r6, hown, hb6⟩ := tab_made (w.alloc (.cells #[.int .i64 2, .int .i64 n, .string t, .slice A xs.length c, .int .i64 p] 186))
  have hm : (w.alloc (.cells #[.int .i64 2, .int .i64 n, .string t, .slice A xs.length c, .int .i64 p] 186)).heap.size = w.heap.size + 1 := by simp
  rw [hm] at r1 r2 r3 r4 r5 r6 hown
  have hx6 : w6.heap[w.heap.size]? = some (.cells #[.int .i64 2, .int .i64 n, .string t, .slice A xs.length c, .int .i64 p] 186 (0, 0)) := (hb6.block _ (by simp)).trans (heap_alloc_new w _)
  have HB6 := Lib.hid (((Below.refl w.heap.size w).alloc (Nat.le_refl _) (.cells #[.int .i64 2, .int .i64 n, .string t, .slice A xs.length c, .int .i64 p] 186)).trans (hb6.mono (by simp)))
  have lk := tab_at hown 2 0 true (by decide) tab_2.1 tab_2.2
  have HX6 := Lib.hid hx6
  have HG6 := Lib.hid (HG.out.to HB6.out)
  obtain ⟨⟨c0, c1, c2, c3, c4⟩, -⟩ := facts5 hx6
  have hs6 : w.heap.size < w6.heap.size := lt_of_some hx6
  have hzt : t.size ≤ maxLen := HZ.out.args.1
  have hzl : xs.length ≤ 281474976710656 := HZ.out.args.2.1
  have HZT := Lib.hid hzt
  obtain ⟨bn, hbn⟩ : ∃ b, nameB t = b := ⟨_, rfl⟩
  obtain ⟨m, hm2⟩ : ∃ m, lv t.data.toList = m := ⟨_, rfl⟩
  have HN := Lib.hid hbn; have HM := Lib.hid hm2
  have NC := Lib.hid (nameOK_b t bn hbn w6 hzt HG6.out)
  have BC : Hid (Calls Tryz.prog 161 #[.string t] w6 fun e w' => e = .returned (.int .i64 m) ∧ Below w6.heap.size w6 w') := Lib.hid (by rw [← hm2]; exact bind_c t w6 HG6.out)
  clear hA hZ hG ih hm hown hx6 hb6 hbn hm2 hzt
  have hl1 : (1 : Int) ≤ (left : Int) := by omega
  have hmm := @run_makeMap Tryz.prog
  by_cases hx0 : xs = []
  · subst hx0
    simp only [List.length_nil] at *
    go_enter Tryz.func102, Tryz.ntmps102
    go_wp2_with (first | (go_at_call 161; refine BC.out.mono ?_; rintro e w7 ⟨rfl, hb7⟩; have d3 := (hb7.cell (p := ⟨w.heap.size, 3, none⟩) hs6).trans c3; have d1 := (hb7.cell (p := ⟨w.heap.size, 1, none⟩) hs6).trans c1; have d0 := (hb7.cell (p := ⟨w.heap.size, 0, none⟩) hs6).trans c0) | (go_at_call 47; refine NC.out.mono ?_; rintro e w7 ⟨rfl, hb7⟩; have d3 := (hb7.cell (p := ⟨w.heap.size, 3, none⟩) hs6).trans c3; have d1 := (hb7.cell (p := ⟨w.heap.size, 1, none⟩) hs6).trans c1; have d0 := (hb7.cell (p := ⟨w.heap.size, 0, none⟩) hs6).trans c0))
    all_goals try (go_ret; (try simp only [beq_iff_eq, beq_eq_false_iff_ne, ne_eq, List.length_nil] at *); exact ⟨by rw [exF, headF_3 h1 (by rw [ok2] <;> first | rfl | (simp only [Bool.true_and, Bool.false_and, Bool.and_eq_true, Bool.or_eq_true, Bool.and_eq_false_iff, Bool.or_eq_false_iff, decide_eq_true_eq, decide_eq_false_iff_not, ne_eq, List.length_nil, and_true, true_and]; omega))]; rfl, by first | exact HB6.out | exact HB6.out.trans (hb7.mono HB6.out.size)⟩)
    all_goals
      have HH : Hid (headF 2 n t ([] : List Ex).length left = none) := Lib.hid (by
        (try simp only [beq_iff_eq, beq_eq_false_iff_ne, ne_eq] at *)
        exact headF_0 h1 (by rw [ok2] <;> first | rfl | (simp only [Bool.true_and, Bool.false_and, Bool.and_eq_true, Bool.or_eq_true, Bool.and_eq_false_iff, Bool.or_eq_false_iff, decide_eq_true_eq, decide_eq_false_iff_not, ne_eq, List.length_nil, and_true, true_and]; omega)) (by simp))
      go_loopw [122] (fun i wr => i = .int .i64 0 ∧ Hid (Below w.heap.size w wr)) (fun _ _ => 0)
      case atStart => exact ⟨rfl, by first | exact HB6 | exact Lib.hid (HB6.out.trans (hb7.mono HB6.out.size))⟩
      case round =>
        obtain ⟨rfl, HB⟩ := hrel
        go_wp2_with fail
        go_ret
        exact ⟨by rw [exF, HH.out, exsF]; rfl, HB.out⟩
  · have hx1 : 0 < xs.length := List.length_pos_iff.2 hx0
    clear hx0
    go_enter Tryz.func102, Tryz.ntmps102
    go_wp2_with (first | (go_at_call 161; refine BC.out.mono ?_; rintro e w7 ⟨rfl, hb7⟩; have d3 := (hb7.cell (p := ⟨w.heap.size, 3, none⟩) hs6).trans c3; have d1 := (hb7.cell (p := ⟨w.heap.size, 1, none⟩) hs6).trans c1; have d0 := (hb7.cell (p := ⟨w.heap.size, 0, none⟩) hs6).trans c0) | (go_at_call 47; refine NC.out.mono ?_; rintro e w7 ⟨rfl, hb7⟩; have d3 := (hb7.cell (p := ⟨w.heap.size, 3, none⟩) hs6).trans c3; have d1 := (hb7.cell (p := ⟨w.heap.size, 1, none⟩) hs6).trans c1; have d0 := (hb7.cell (p := ⟨w.heap.size, 0, none⟩) hs6).trans c0))
    all_goals (go_ret; generalize hL : xs.length = L at *; (try simp only [beq_iff_eq, beq_eq_false_iff_ne, ne_eq] at *); exact ⟨by rw [exF, hL, headF_3 h1 (by rw [ok2] <;> first | rfl | (simp only [Bool.true_and, Bool.false_and, Bool.and_eq_true, Bool.or_eq_true, Bool.and_eq_false_iff, Bool.or_eq_false_iff, decide_eq_true_eq, decide_eq_false_iff_not, ne_eq, List.length_nil, and_true, true_and]; omega))]; rfl, by first | exact HB6.out | exact HB6.out.trans (hb7.mono HB6.out.size)⟩)
end Go.Proofs.YtmngofgminlloaaGreatDoor

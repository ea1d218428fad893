/- match.Find: what it tells. -/
import Derived.Test.YtaooiffnpnmdeaaMtG
import Derived.Test.YtaooiffnpnmdeaaTokFront
import Derived.OwnWalk
import Derived.Maps.AppendAt
namespace Go.Proofs.Ytaooiffnpnmdeaa.Mt
open Go.RowKit Go.Proofs.YtaooiffnpnmdeaaW.PrintWords Go.Proofs.YtaooiffnpnmdeaaW.PrintLast Go.Proofs.YtaooiffnpnmdeaaW.PrintMore Go.Proofs.Ytaooiffnpnmdeaa.PIx
open Go.Maps Go.MapKept Go.ChangeShapes
set_option linter.unusedVariables false
set_option linter.unusedSimpArgs false
/-- A token. -/
structure Tok where
  kind : Int
  byte : Int
  len : Int
  dist : Int
  slot : Int
def Tok.cells (t : Tok) : List Value := [.int .u8 t.kind, .int .u8 t.byte, .int .i64 t.len, .int .i64 t.dist, .int .i64 t.slot]
def toks5 (l : List Tok) : List Value := l.flatMap Tok.cells
theorem toks5_snoc (l : List Tok) (t : Tok) : toks5 (l ++ [t]) = toks5 l ++ t.cells := by simp [toks5]
def litT (s : ByteArray) (p : Nat) : Tok := ⟨1, ((s.data.getD p 0).toNat : Int), 0, 0, 0⟩
/-- A match's token, by the row. -/
def matT (n d : Nat) (r : Int × Int × Int × Int) : Tok := if 0 ≤ PIx.rowAt r.1 r.2.1 r.2.2.1 r.2.2.2 (d : Int) then ⟨3, 0, (n : Int), 0, PIx.rowAt r.1 r.2.1 r.2.2.1 r.2.2.2 (d : Int)⟩ else ⟨2, 0, (n : Int), (d : Int), 0⟩
/-- The tokens from a place on. -/
def findL (s : ByteArray) : Nat → Nat → Int × Int × Int × Int → List Tok
  | 0, _, _ => []
  | f + 1, p, r =>
    if p < s.size then
      if (longS s p).1 = 0 ∨ (longS s p).1 < (longS s (p + 1)).1 then litT s p :: findL s f (p + 1) r
      else matT (longS s p).1 (longS s p).2 r :: findL s f (p + (longS s p).1) (front r.1 r.2.1 r.2.2.1 r.2.2.2 ((longS s p).2 : Int))
    else []
def findS (s : ByteArray) : List Tok := findL s s.size 0 (0, 0, 0, 0)
theorem findL_end {s : ByteArray} {p : Nat} (h : s.size ≤ p) (f : Nat) (r : Int × Int × Int × Int) : findL s f p r = [] := by
  cases f with
  | zero => rfl
  | succ f => rw [findL, if_neg (by omega)]
/-- What Find holds at each round's head. -/
structure FI (w W : World) (B g mb b5 : Nat) (s : ByteArray) (kn : Nat) (r : Int × Int × Int × Int) (v : Value) (l : List Tok) : Prop where
  fs : FS W g mb s kn kn (fun k => (k < B ∨ k = b5) ∨ v.ownBlock = some k)
  row : W.heap[b5]? = some (.cells #[.int .i64 r.1, .int .i64 r.2.1, .int .i64 r.2.2.1, .int .i64 r.2.2.2] 42 (0, 0))
  own : W.ownsRow B 27 5 v l.length (toks5 l)
  bel : Keep (fun k => k < B) w W
  b5 : B ≤ b5
theorem FI.keep {w W W' : World} {B g mb b5 : Nat} {s : ByteArray} {kn kn' : Nat} {r : Int × Int × Int × Int} {v : Value} {l : List Tok} (h : FI w W B g mb b5 s kn r v l) (hk : Keep (fun k => (k < B ∨ k = b5) ∨ v.ownBlock = some k) W W') (hf : FS W' g mb s kn' kn' (fun k => (k < B ∨ k = b5) ∨ v.ownBlock = some k)) : FI w W' B g mb b5 s kn' r v l :=
  ⟨hf, (hk.keep _ (.inl (.inr rfl))).trans h.row, ownsRow_heap h.own fun q e => hk.keep q (.inr e), h.bel.trans (hk.imp fun k hk => .inl (.inl hk)), h.b5⟩
theorem FI.turn {w W W' : World} {B g mb b5 : Nat} {s : ByteArray} {kn : Nat} {r : Int × Int × Int × Int} {v : Value} {l : List Tok} (h : FI w W B g mb b5 s kn r v l) (hg : W.grownBy W' none) : FI w W' B g mb b5 s kn r v l :=
  h.keep (Keep.grown hg fun k hk => ⟨(h.fs.no k hk).1, by simp⟩) (h.fs.turn hg fun _ e => by cases e)
/-- An element appended. -/
theorem FI.app {w W W' : World} {B g mb b5 : Nat} {s : ByteArray} {kn : Nat} {r : Int × Int × Int × Int} {v v' : Value} {l : List Tok} {t : Tok} (h : FI w W B g mb b5 s kn r v l) (hown : W'.ownsRow B 27 5 v' (l.length + 1) (toks5 l ++ t.cells)) (hgr : W.grownBy W' v.ownBlock) (hat : v'.ownBlock = v.ownBlock ∨ v'.ownBlock = some W.heap.size ∨ ∃ q, v'.ownBlock = some q ∧ W.heap.size ≤ q) : FI w W' B g mb b5 s kn r v' (l ++ [t]) := by
  have hno := h.fs.no
  have f1 : FS W' g mb s kn kn (fun k => (k < B ∨ k = b5) ∨ v.ownBlock = some k) := by
    cases hv : v.ownBlock with
    | none => rw [hv] at hgr; exact h.fs.turn hgr (fun k e => by cases e) |>.weak (by rw [hv]; exact fun k hk => hk)
    | some q => rw [hv] at hgr; exact h.fs.turn hgr (fun k e => by cases e; exact .inr hv) |>.weak (by rw [hv]; exact fun k hk => hk)
  have hvb : ∀ j, v.ownBlock = some j → B ≤ j := fun j e => (h.own.lt j e).1
  have n5 : some b5 ≠ v.ownBlock := fun e => by
    obtain ⟨c, hc⟩ := own_typed h.own b5 e.symm
    rw [h.row] at hc
    cases hc
  refine ⟨?_, (hgr.block b5 (blk_lt h.row) n5).trans h.row, by rw [toks5_snoc, List.length_append]; exact hown, h.bel.trans (Keep.grown hgr fun k hk => ⟨(hno k (.inl (.inl hk))).1, fun e => by have := hvb k e.symm; omega⟩), h.b5⟩
  -- the new row's block is the old one, or a new one
  have hsz := hgr.size
  obtain ⟨n, D, h1, h2, h3⟩ := h.fs.grp
  have hlt := h.fs.mb_lt
  have hgl := blk_lt h.fs.blk
  refine ⟨f1.blk, f1.grp, ?_, fun k hk => ?_, f1.gm⟩
  · have hsh : Shuns W mb (fun k => (k < B ∨ k = b5) ∨ v'.ownBlock = some k) := h.fs.shun.reno h2 fun k hk => by
      rcases hk with hk | hk
      · exact .inl (.inl hk)
      · rcases hat with e | e | ⟨q, e, hq⟩
        · exact .inl (.inr (e ▸ hk))
        · rw [e] at hk; cases hk; exact .inr (Nat.le_refl _)
        · rw [e] at hk; cases hk; exact .inr hq
    exact hsh.kept hgr hlt (fun e => by have := h.fs.no mb (.inr e.symm); exact this.2.2 rfl)
  · rcases hk with hk | hk
    · exact f1.no k (.inl hk)
    · have hk2 := (hown.lt k hk).2
      refine ⟨hk2, ?_, ?_⟩
      · rintro rfl
        obtain ⟨c, hc⟩ := own_typed hown k hk
        rw [f1.blk] at hc
        cases hc
      · rintro rfl
        obtain ⟨c, hc⟩ := own_typed hown k hk
        obtain ⟨n', D', _, ⟨es, clock, hb, _⟩, _⟩ := f1.grp
        rw [hb] at hc
        cases hc
/-- Another row. -/
theorem FI.front {w W : World} {B g mb b5 : Nat} {s : ByteArray} {kn : Nat} {r r' : Int × Int × Int × Int} {v : Value} {l : List Tok} (h : FI w W B g mb b5 s kn r v l) {W' : World} (hg : W.grownBy W' (some b5)) (hr : W'.heap[b5]? = some (.cells #[.int .i64 r'.1, .int .i64 r'.2.1, .int .i64 r'.2.2.1, .int .i64 r'.2.2.2] 42 (0, 0))) : FI w W' B g mb b5 s kn r' v l := by
  have n5 : v.ownBlock ≠ some b5 := fun e => by
    obtain ⟨c, hc⟩ := own_typed h.own b5 e
    rw [h.row] at hc
    cases hc
  have hb5 := h.b5
  exact ⟨h.fs.turn hg fun k e => by cases e; exact .inl (.inr rfl), hr, h.own.kept hg (.inr n5), h.bel.trans (Keep.grown hg fun k hk => ⟨(h.fs.no k (.inl (.inl hk))).1, fun e => by cases e; omega⟩), h.b5⟩
end Go.Proofs.Ytaooiffnpnmdeaa.Mt

/- The matcher's places: a map of slices of the call's own, its groups and what they shun. -/
import Derived.Test.YtaooiffnpnmdeaaMtA
import Derived.Maps.OwnRows
import Derived.Maps.OwnSet
import Derived.Maps.Views
import Derived.Maps.AppendAt
import Derived.StringKeys
namespace Go.Proofs.Ytaooiffnpnmdeaa.Mt
open Go.RowKit Go.Proofs.YtaooiffnpnmdeaaW.PrintWords Go.Proofs.YtaooiffnpnmdeaaW.PrintLast Go.Proofs.YtaooiffnpnmdeaaW.PrintMore
open Go.Maps Go.WideElems Go.MapKept Go.ChangeShapes
open Go.ChangeMaps (setBlock heap_setBlock_same)
set_option linter.unusedVariables false
set_option linter.unusedSimpArgs false
section
variable {H : Type} {P : Program} {k : TypeId} {w w' : World} {base : Nat} {e : TypeId} {q : IntKind} {b n : Nat} {D : DataW H}
theorem groups_kept {row : Option Nat} (h : w.ownsGroups P k base e q b n D) (hg : w.grownBy w' row) (hb' : some b ≠ row)
    (hrow : ∀ es clock, w.heap[b]? = some (.map es clock) → ∀ x ∈ es.toList, x.val.ownBlock = none ∨ x.val.ownBlock ≠ row) : w'.ownsGroups P k base e q b n D := by
  obtain ⟨es, clock, hb, F, hs, rfl, hbb, hlen, hap⟩ := h
  have hblt : b < w.heap.size := (Array.getElem?_eq_some_iff.1 hb).1
  have hst : ∀ x ∈ es.toList, ∀ z, rowElem (H := H) w base e q x.val = some z → rowElem w' base e q x.val = some z := fun x hx z hz => by
    obtain ⟨zs, ho, rfl⟩ := rowElem_inv hz
    exact rowElem_mk (ho.kept hg (hrow es clock hb x hx))
  obtain ⟨F1, hmap, _⟩ := F.stay hst
  refine ⟨es, clock, (hg.block b hblt hb').trans hb, F1, hs, by rw [hmap], hbb, fun x hx zs ho => ?_, hap⟩
  obtain ⟨y, hy⟩ := F.reads x hx
  obtain ⟨z, hz, _⟩ := rd_val hy
  obtain ⟨zs0, ho0, _⟩ := rowElem_inv hz
  rw [ho.unique (ho0.kept hg (hrow es clock hb x hx))]
  exact hlen x hx zs0 ho0

def Shuns (w : World) (b : Nat) (No : Nat → Prop) : Prop := ∀ es clock, w.heap[b]? = some (.map es clock) → ∀ x ∈ es.toList, ∀ g, x.val.ownBlock = some g → ¬ No g

theorem shuns_made (w : World) (No : Nat → Prop) : Shuns (w.alloc (.map #[] 0)) w.heap.size No := fun es clock hb x hx => by
  rw [(MapKept.heap_alloc w _).1] at hb
  cases hb
  simp at hx
theorem Shuns.kept {No : Nat → Prop} {row : Option Nat} (h : Shuns w b No) (hg : w.grownBy w' row) (hlt : b < w.heap.size) (hb' : some b ≠ row) : Shuns w' b No := fun es clock hb =>
  h es clock ((hg.block b hlt hb').symm.trans hb)
theorem Shuns.reno {No No' : Nat → Prop} (h : Shuns w b No) (ho : w.ownsGroups P k base e q b n D) (hn : ∀ g, No' g → No g ∨ w.heap.size ≤ g) : Shuns w b No' := fun es clock hb x hx g hg hN => by
  rcases hn g hN with h1 | h1
  · exact h es clock hb x hx g hg h1
  · obtain ⟨es', clock', hb', F, _⟩ := ho
    obtain ⟨rfl, rfl⟩ : es' = es ∧ clock' = clock := by rw [hb'] at hb; simpa using hb
    obtain ⟨y, hy⟩ := F.reads x hx
    obtain ⟨z, hz, _⟩ := rd_val hy
    obtain ⟨zs, hoi, _⟩ := rowElem_inv hz
    have := (hoi.1.lt g hg).2
    omega
theorem Shuns.rowsOff {No : Nat → Prop} (h : Shuns w b No) {row : Option Nat} (hr : ∀ j, row = some j → No j) : ∀ es clock, w.heap[b]? = some (.map es clock) → ∀ x ∈ es.toList, x.val.ownBlock = none ∨ x.val.ownBlock ≠ row := fun es clock hb x hx => by
  cases hx' : x.val.ownBlock with
  | none => exact Or.inl rfl
  | some g => exact Or.inr (fun e1 => h es clock hb x hx g hx' (hr g e1.symm))
theorem stored_who {t E : TypeId} {R : Value → Option (DataW H × List MemPlace)} {es : Array MapEntry} {clock : Nat} {key val : Value} {kl : Lit} {w2 : World} (K : Keyed P k) (ht : P.underlying t = some (.map k E)) (hb : w.heap[b]? = some (.map es clock)) (F : Fit P k R es clock) (hroom : es.size < maxLen)
    (hkey : keyOf P k key = some kl) (hrun : (Instr.mapUpdate t (.map (some b)) key val).run P w = .ok () w2) :
    ∃ es' clock', w2.heap[b]? = some (.map es' clock') ∧ ∀ x' ∈ es'.toList, (x' ∈ es.toList ∧ x'.key ≠ key) ∨ (x'.key = key ∧ x'.val = val) := by
  have F0 : Fit P k (fun _ => some ((.nil : DataW H), ([] : List MemPlace))) es clock := ⟨F.size, F.stamped, fun x hx => by
    obtain ⟨y, hy⟩ := F.reads x hx
    exact ⟨(y.1, .nil), by simp [Go.WideElems.rd, rd_key hy]⟩⟩
  obtain ⟨es', clock', hrun', _, _, _, _, hwho⟩ := Maps.fit_store (R' := fun _ => some ((.nil : DataW H), ([] : List MemPlace))) (val := val) K ht hb F0 hroom (fun _ _ _ _ h => h) hkey rfl
  rw [hrun] at hrun'
  obtain rfl : w2 = setBlock w b (.map es' clock') := by simpa using hrun'
  exact ⟨es', clock', heap_setBlock_same hb _, hwho⟩
end

/-- The three bytes at a place. -/
def kt (s : ByteArray) (p : Nat) : List UInt8 := (s.extract p (p + 3)).data.toList
/-- Where three bytes stood, ahead of a place. -/
def occ (s : ByteArray) (known : Nat) (t : List UInt8) : List Nat := (List.range known).filter fun p => decide (kt s p = t)
def ints (l : List Nat) : List Int := l.map fun (p : Nat) => (p : Int)
def items {H : Type} : DataW H → List (DataW H)
  | .slice l _ => l
  | _ => []
theorem items_row {w : World} {base : Nat} {e : TypeId} {q : IntKind} {v : Value} {zs : List Int} (h : w.ownsInts base e q v zs) : items (rowDatum (H := Unit) q v zs) = lits q zs := by
  rcases h.datum (H := Unit) with ⟨h1, h2⟩ | h1
  · rw [h1, h2]; rfl
  · rw [h1]; rfl
theorem lits_inj {q : IntKind} {a b : List Int} (h : lits (H := Unit) q a = lits q b) : a = b := (List.map_inj_right (fun x y hxy => by cases hxy; rfl)).1 h
/-- The map tells where each three bytes stood. -/
def PD (s : ByteArray) (known : Nat) (D : DataW Unit) : Prop := IsMap D ∧ ∀ t : List UInt8, items (D.atKey (.string t) .nil) = lits .i64 (ints (occ s known t))
theorem PD_empty (s : ByteArray) : PD s 0 (.map []) := ⟨isMap_empty, fun t => rfl⟩
theorem occ_succ (s : ByteArray) (known : Nat) (t : List UInt8) : occ s (known + 1) t = occ s known t ++ (if kt s known = t then [known] else []) := by
  unfold occ
  rw [List.range_succ, List.filter_append]
  by_cases h : kt s known = t <;> simp [h]
theorem PD_step {s : ByteArray} {known : Nat} {D : DataW Unit} (h : PD s known D) {w : World} {base : Nat} {e : TypeId} {v' : Value} (ho : w.ownsInts base e .i64 v' (ints (occ s known (kt s known)) ++ [(known : Int)])) :
    PD s (known + 1) (D.put (.string (kt s known)) (rowDatum .i64 v' (ints (occ s known (kt s known)) ++ [(known : Int)]))) := by
  refine ⟨h.1.put _ _, fun t => ?_⟩
  by_cases ht : t = kt s known
  · subst ht
    rw [atKey_put_same h.1 (by trivial), items_row ho, occ_succ, if_pos rfl]
    simp [ints]
  · rw [atKey_put_other (fun e => ht (by cases e; rfl)), h.2 t, occ_succ, if_neg (fun e => ht e.symm), List.append_nil]
/-- The finder at g, its map at mb: its field says fk, the map tells where three bytes stood ahead of dk; no group's row is one of No. -/
structure FS (W : World) (g mb : Nat) (s : ByteArray) (fk dk : Nat) (No : Nat → Prop) : Prop where
  blk : W.heap[g]? = some (.cells #[.string s, .map (some mb), .int .i64 (fk : Int)] 48 (0, 0))
  grp : ∃ n D, n ≤ dk ∧ W.ownsGroups Try.prog 9 (mb + 1) 3 .i64 mb n D ∧ PD s dk D
  shun : Shuns W mb No
  no : ∀ k, No k → k < W.heap.size ∧ k ≠ g ∧ k ≠ mb
  gm : g ≠ mb
/-- The world turns, but not in No. -/
structure Keep (No : Nat → Prop) (W W' : World) : Prop where
  os : W'.os = W.os
  tape : W'.tape = W.tape
  output : W'.output = W.output
  size : W.heap.size ≤ W'.heap.size
  keep : ∀ k, No k → W'.heap[k]? = W.heap[k]?
theorem Keep.refl (No : Nat → Prop) (W : World) : Keep No W W := ⟨rfl, rfl, rfl, Nat.le_refl _, fun _ _ => rfl⟩
theorem Keep.trans {No : Nat → Prop} {X Y Z : World} (h : Keep No X Y) (k : Keep No Y Z) : Keep No X Z :=
  ⟨k.os.trans h.os, k.tape.trans h.tape, k.output.trans h.output, Nat.le_trans h.size k.size, fun i hi => (k.keep i hi).trans (h.keep i hi)⟩
theorem Keep.grown {No : Nat → Prop} {X Y : World} {row : Option Nat} (h : X.grownBy Y row) (hn : ∀ k, No k → k < X.heap.size ∧ some k ≠ row) : Keep No X Y :=
  ⟨h.os, h.tape, h.output, h.size, fun k hk => h.block k (hn k hk).1 (hn k hk).2⟩
theorem Keep.drewN {No : Nat → Prop} {X Y : World} (h : Keep No X Y) (n : Nat) : Keep No X (Y.drewN n) := ⟨h.os, h.tape, h.output, h.size, h.keep⟩
theorem Keep.below {No : Nat → Prop} {X Y : World} (h : Below X.heap.size X Y) (hn : ∀ k, No k → k < X.heap.size) : Keep No X Y := ⟨h.os, h.tape, h.output, h.size, fun k hk => h.block k (hn k hk)⟩
theorem FS.turn {W W' : World} {g mb : Nat} {s : ByteArray} {fk dk : Nat} {No : Nat → Prop} {row : Option Nat} (h : FS W g mb s fk dk No) (hg : W.grownBy W' row) (hr : ∀ k, row = some k → No k) : FS W' g mb s fk dk No := by
  have ng : some g ≠ row := fun e => (h.no g (hr g e.symm)).2.1 rfl
  have nm : some mb ≠ row := fun e => (h.no mb (hr mb e.symm)).2.2 rfl
  obtain ⟨n, D, h1, h2, h3⟩ := h.grp
  have hlt : mb < W.heap.size := by
    obtain ⟨es, clock, hb, _⟩ := h2
    exact (Array.getElem?_eq_some_iff.1 hb).1
  exact ⟨(hg.block g (blk_lt h.blk) ng).trans h.blk, ⟨n, D, h1, groups_kept h2 hg nm (h.shun.rowsOff hr), h3⟩, h.shun.kept hg hlt nm, fun k hk => ⟨Nat.lt_of_lt_of_le (h.no k hk).1 hg.size, (h.no k hk).2⟩, h.gm⟩
theorem FS.fresh {W : World} {g mb : Nat} {s : ByteArray} {fk dk : Nat} {No : Nat → Prop} (h : FS W g mb s fk dk No) (o : Obj) : FS (W.alloc o) g mb s fk dk (fun k => No k ∨ k = W.heap.size) := by
  obtain ⟨n, D, h1, h2, h3⟩ := h.grp
  have hlt : mb < W.heap.size := by
    obtain ⟨es, clock, hb, _⟩ := h2
    exact (Array.getElem?_eq_some_iff.1 hb).1
  have hgl := blk_lt h.blk
  have h5 : FS W g mb s fk dk No := h
  have hsh : Shuns W mb (fun k => No k ∨ k = W.heap.size) := h.shun.reno h2 fun k hk => hk.imp id fun e => Nat.le_of_eq e.symm
  have k := h5.turn (World.grownBy_alloc W o none) (fun _ e => by cases e)
  refine ⟨k.blk, k.grp, hsh.kept (World.grownBy_alloc W o none) hlt (by simp), fun i hi => ?_, h.gm⟩
  rw [World.size_alloc]
  rcases hi with hi | rfl
  · have := h.no i hi; exact ⟨by omega, this.2⟩
  · exact ⟨by omega, by omega, by omega⟩
theorem grown_drew (W : World) : W.grownBy W.drew none := ⟨rfl, rfl, rfl, Nat.le_refl _, fun _ _ _ => rfl⟩
theorem grown_drewN (W : World) (n : Nat) : W.grownBy (W.drewN n) none := ⟨rfl, rfl, rfl, Nat.le_refl _, fun _ _ _ => rfl⟩
theorem FS.cells {W : World} {g mb : Nat} {s : ByteArray} {fk dk : Nat} {No : Nat → Prop} (h : FS W g mb s fk dk No) :
    W.cell? ⟨g, 0, none⟩ = some (.string s) ∧ W.cell? ⟨g, 1, none⟩ = some (.map (some mb)) ∧ W.cell? ⟨g, 2, none⟩ = some (.int .i64 (fk : Int)) :=
  ⟨(blk_cell h.blk 0).trans rfl, (blk_cell h.blk 1).trans rfl, (blk_cell h.blk 2).trans rfl⟩
theorem keyOf_str (b : ByteArray) (hb : b.size ≤ 100000) : keyOf Try.prog 9 (.string b) = some (.string b.data.toList) := by
  rw [keyOf_string Try.underlying9]
  simp [mapKey, Try.underlying9]
  unfold maxLen
  omega
theorem zero_ints (w : World) : (zeroValue 51).run Try.prog w = .ok (.slice none 0 0) w := by kernel_rfl
theorem ints_len (l : List Nat) : (ints l).length = l.length := by simp [ints]
theorem occ_len (s : ByteArray) (k : Nat) (t : List UInt8) : (occ s k t).length ≤ k := by
  unfold occ
  refine Nat.le_trans (List.length_filter_le _ _) ?_
  simp
/-- The lookup, whatever the key: the slice owns where it stood, it lies in none of No; and the way back. -/
theorem FS.look {W : World} {g mb : Nat} {s : ByteArray} {fk dk : Nat} {No : Nat → Prop} (h : FS W g mb s fk dk No) (hd : dk ≤ 100000) (key : ByteArray) (hks : key.size ≤ 100000) :
    ∃ n D v zs, zs = ints (occ s dk key.data.toList) ∧ n ≤ dk ∧ PD s dk D ∧ W.ownsGroups Try.prog 9 (mb + 1) 3 .i64 mb n D ∧ (Instr.lookup 46 (.map (some mb)) (.string key) false).run Try.prog W = .ok v W ∧ W.ownsInts (mb + 1) 3 .i64 v zs ∧ zs.length ≤ n ∧
      W.groupBack Try.prog 46 9 (mb + 1) 3 .i64 mb n D (.string key) (.string key.data.toList) v ∧ ∀ k, No k → v.ownBlock ≠ some k := by
  obtain ⟨n, D, h1, h2, h3⟩ := h.grp
  have h2' := h2
  obtain ⟨es, clock, hb, F, hs, hDe, hbb, hlen, hap⟩ := h2
  have hn : n < maxLen := by unfold maxLen; omega
  subst hDe
  rcases Maps.fit_look false (string_keyed Try.underlying9) Try.underlying46 (zero_ints W) hb F (keyOf_str key hks) with ⟨hrun, _, hat⟩ | ⟨e0, y, hm0, h4, hrun, hR, hat, _⟩
  · have e : ints (occ s dk key.data.toList) = [] := by
      have := h3.2 key.data.toList
      rw [hat] at this
      exact (lits_inj (q := .i64) (a := []) this).symm
    refine ⟨n, _, .slice none 0 0, _, e.symm, h1, h3, h2', hrun, World.ownsInts_nil _ _ _ _, Nat.zero_le _, groups_back (string_keyed Try.underlying9) Try.underlying46 hb F hs hn hbb hlen hap (keyOf_str key hks) (fun x _ _ => ?_) (by simp [Value.ownBlock]), fun k _ => by simp [Value.ownBlock]⟩
    cases x.val.ownBlock <;> simp [Value.ownBlock]
  · obtain ⟨zs, ho, rfl⟩ := rowElem_inv hR
    have e : zs = ints (occ s dk key.data.toList) := by
      have := h3.2 key.data.toList
      rw [hat, items_row ho] at this
      exact lits_inj this
    have hl := hlen e0 hm0 _ ho
    refine ⟨n, _, e0.val, _, e, h1, h3, h2', hrun, ho, hl, groups_back (string_keyed Try.underlying9) Try.underlying46 hb F hs hn hbb hlen hap (keyOf_str key hks) (fun x hx hne => hap x hx e0 hm0 (by rw [h4]; exact hne)) (fun e1 => ?_), fun k hk e1 => h.shun es clock hb e0 hm0 k e1 hk⟩
    have := (ho.1.lt mb e1).1
    omega
/-- The append and the store back: the map tells one place more. -/
theorem FS.learn {W w8 : World} {g mb : Nat} {s : ByteArray} {fk dk : Nat} {No : Nat → Prop} (h : FS W g mb s fk dk No) (hd : dk < 100000) {key : ByteArray} (hks : key.size ≤ 100000) (hkey : key = s.extract dk (dk + 3)) {n : Nat} {D : DataW Unit} {v : Value} {zs : List Int} (hzs : zs = ints (occ s dk key.data.toList)) (hn : n ≤ dk) (hD : PD s dk D)
    (hown0 : W.ownsGroups Try.prog 9 (mb + 1) 3 .i64 mb n D) (hoi : W.ownsInts (mb + 1) 3 .i64 v zs) (hl : zs.length ≤ n)
    (hback : W.groupBack Try.prog 46 9 (mb + 1) 3 .i64 mb n D (.string key) (.string key.data.toList) v) (hsv : ∀ k, No k → v.ownBlock ≠ some k)
    {gg cap : Nat} (hgr : W.grownBy w8 v.ownBlock) (hown : w8.ownsRow (mb + 1) 3 1 (.slice (some ⟨gg, 0, none⟩) (zs.length + 1) cap) (zs.length + 1) (zs.map (Value.int .i64) ++ [.int .i64 (dk : Int)]))
    (hat : v.ownBlock = some gg ∨ W.heap.size ≤ gg) :
    ∃ w2, (Instr.mapUpdate 46 (.map (some mb)) (.string key) (.slice (some ⟨gg, 0, none⟩) (zs.length + 1) cap)).run Try.prog w8 = .ok () w2 ∧ FS w2 g mb s fk (dk + 1) No ∧ Keep No W w2 := by
  have hoi' := hoi.appended hown (WalkArith.wf_i64 (by omega))
  have hloc : (Value.slice (some ⟨gg, 0, none⟩) (zs.length + 1) cap).ownBlock = v.ownBlock ∨ ∃ g', (Value.slice (some ⟨gg, 0, none⟩) (zs.length + 1) cap).ownBlock = some g' ∧ W.heap.size ≤ g' := by
    rcases hat with e | e
    · exact .inl e.symm
    · exact .inr ⟨gg, rfl, e⟩
  obtain ⟨w2, hrun, r1, r2⟩ := hback w8 _ _ hgr hoi' (by rw [List.length_append]; simp; omega) hloc
  have vg : v.ownBlock ≠ some g := fun e => by
    obtain ⟨c, hc⟩ := own_typed hoi.1 g e
    rw [h.blk] at hc
    cases hc
  have vm : ∀ j, v.ownBlock = some j → mb + 1 ≤ j := fun j e => (hoi.1.lt j e).1
  have hb8 : w8.heap[g]? = some (.cells #[.string s, .map (some mb), .int .i64 (fk : Int)] 48 (0, 0)) := (hgr.block g (blk_lt h.blk) (fun e => vg e.symm)).trans h.blk
  have k8 : Keep No W w8 := Keep.grown hgr fun k hk => ⟨(h.no k hk).1, fun e => hsv k hk e.symm⟩
  have k2 : Keep No w8 w2 := Keep.grown r2 fun k hk => ⟨Nat.lt_of_lt_of_le (h.no k hk).1 hgr.size, fun e => (h.no k hk).2.2 (Option.some.inj e)⟩
  have hsh : Shuns w2 mb No := by
    obtain ⟨es, clock, hb, F, hs, hDe, hbb, hlen, hap⟩ := hown0
    have hblt : mb < W.heap.size := (Array.getElem?_eq_some_iff.1 hb).1
    have hb1 : w8.heap[mb]? = some (.map es clock) := (hgr.block mb hblt (fun e1 => by have := vm mb e1.symm; omega)).trans hb
    obtain ⟨es', clock', hb2, hwho⟩ := stored_who (string_keyed Try.underlying9) Try.underlying46 hb1 F (Nat.lt_of_le_of_lt hs (by unfold maxLen; omega)) (keyOf_str key hks) hrun
    intro es2 clock2 hb2' y hy g' hyg
    obtain ⟨rfl, rfl⟩ : es' = es2 ∧ clock' = clock2 := by rw [hb2] at hb2'; simpa using hb2'
    rcases hwho y hy with ⟨hy0, _⟩ | ⟨_, hval⟩
    · exact h.shun es clock hb y hy0 g' hyg
    · intro hN
      rw [hval] at hyg
      have e : gg = g' := by simpa [Value.ownBlock] using hyg
      subst e
      rcases hat with e | e
      · exact hsv gg hN e
      · have := (h.no gg hN).1
        omega
  have hD' := PD_step hD (w := w8) (base := mb + 1) (e := 3) (v' := .slice (some ⟨gg, 0, none⟩) (zs.length + 1) cap)
  subst hkey
  subst hzs
  exact ⟨w2, hrun, ⟨(r2.block g (blk_lt hb8) (fun e => h.gm (Option.some.inj e))).trans hb8, ⟨n + 1, _, by omega, r1, hD' hoi'⟩, hsh, fun k hk => ⟨Nat.lt_of_lt_of_le (h.no k hk).1 (k8.trans k2).size, (h.no k hk).2⟩, h.gm⟩, k8.trans k2⟩
end Go.Proofs.Ytaooiffnpnmdeaa.Mt

/- A table in the hands of a law: what each call leaves. -/
import Derived.Test.YtlkgdnmfgcmldaaDoorLea19
namespace Go.Proofs.YtlkgdnmfgcmldaaDoor
open Go.RowKit Go.Spk
set_option linter.unusedVariables false
/-- Since w0 all that was there is as it was; blocks g and b, new since then, are a table of the leases L. -/
structure Hold (w0 w : World) (g b : Nat) (n tt l ep : Int) (L : List Lse) : Prop where
  below : Below w0.heap.size w0 w
  row : Whole w g 60 (tabC n tt l b ep)
  tab : TabAt w b L
  asc : Asc L
  ne : g ≠ b
  lasts : ∀ x ∈ L, 0 ≤ x.l ∧ x.l ≤ 1099511627776
  lg : w0.heap.size ≤ g
  lb : w0.heap.size ≤ b
section
variable {w0 w w' : World} {g b : Nat} {n tt l ep : Int} {L : List Lse}
theorem TabAt.of_block {w w' : World} {b : Nat} {L : List Lse} (h : TabAt w b L) (hb : w'.heap[b]? = w.heap[b]?) : TabAt w' b L := by
  obtain ⟨⟨n, S, ⟨es, clock, hc, F, hs, hD⟩, hp⟩, h2, h3⟩ := h
  exact ⟨⟨n, S, ⟨es, clock, hb.trans hc, F, hs, hD⟩, hp⟩, h2, h3⟩
theorem Hold.kept {g' b' : Nat} (h : Hold w0 w g b n tt l ep L) (hk : Kept2 w w' g' b') (h1 : g ≠ g') (h2 : g ≠ b') (h3 : b ≠ g') (h4 : b ≠ b') (hg : w0.heap.size ≤ g') (hb : w0.heap.size ≤ b') : Hold w0 w' g b n tt l ep L := by
  refine ⟨⟨hk.os.trans h.below.os, hk.tape.trans h.below.tape, hk.output.trans h.below.output, Nat.le_trans h.below.size hk.size, fun i hi => (hk.block i (Nat.lt_of_lt_of_le hi h.below.size) (by omega) (by omega)).trans (h.below.block i hi)⟩, ?_, h.tab.of_block (hk.block b h.tab.lt h3 h4), h.asc, h.ne, h.lasts, h.lg, h.lb⟩
  have := h.row
  unfold Whole at *
  rw [hk.block g h.row.inside h1 h2]
  exact this
theorem Hold.quiet (h : Hold w0 w g b n tt l ep L) (hb : Below w.heap.size w w') : Hold w0 w' g b n tt l ep L :=
  ⟨h.below.trans (hb.mono h.below.size), h.row.below hb h.row.inside, h.tab.of_block (hb.block b h.tab.lt), h.asc, h.ne, h.lasts, h.lg, h.lb⟩
theorem Hold.turned {ep' : Int} {L' : List Lse} (h : Hold w0 w g b n tt l ep L) (hk : Kept2 w w' g b) (hr : Whole w' g 60 (tabC n tt l b ep')) (ht : TabAt w' b L') (ha : Asc L') (hl : ∀ x ∈ L', 0 ≤ x.l ∧ x.l ≤ 1099511627776) : Hold w0 w' g b n tt l ep' L' :=
  ⟨⟨hk.os.trans h.below.os, hk.tape.trans h.below.tape, hk.output.trans h.below.output, Nat.le_trans h.below.size hk.size, fun i hi => (hk.block i (Nat.lt_of_lt_of_le hi h.below.size) (by have := h.lg; omega) (by have := h.lb; omega)).trans (h.below.block i hi)⟩, hr, ht, ha, h.ne, hl, h.lg, h.lb⟩
theorem Hold.only {L' : List Lse} (h : Hold w0 w g b n tt l ep L) (hk : w.grownBy w' (some b)) (ht : TabAt w' b L') (ha : Asc L') (hl : ∀ x ∈ L', 0 ≤ x.l ∧ x.l ≤ 1099511627776) : Hold w0 w' g b n tt l ep L' :=
  h.turned (Kept2.of_only hk g) (h.row.only hk (ne_some h.ne)) ht ha hl
end
theorem tickI_bd (n : Int) : 0 ≤ tickI n ∧ tickI n ≤ 1099511627776 := by unfold tickI; omega
theorem newM_ok {L : List Lse} (ep : Int) (t a : ByteArray) (o now was : Int) (hA : Asc L) (hl : ∀ x ∈ L, 0 ≤ x.l ∧ x.l ≤ 1099511627776) :
    Asc (newM L ep t a o now was).L ∧ (∀ x ∈ (newM L ep t a o now was).L, 0 ≤ x.l ∧ x.l ≤ 1099511627776) ∧ (newM L ep t a o now was).L.length ≤ L.length + 1 ∧ (newM L ep t a o now was).ep = ep + 1 := by
  refine ⟨insL_asc hA _, fun x hx => ?_, insL_length _ _, rfl⟩
  rcases mem_insL.1 hx with rfl | ⟨h, _⟩
  · exact tickI_bd now
  · exact hl x h
theorem takeM_ok (nm tot ep : Int) {L : List Lse} (t a : ByteArray) (o now : Int) (hA : Asc L) (hl : ∀ x ∈ L, 0 ≤ x.l ∧ x.l ≤ 1099511627776) :
    Asc (takeM nm tot ep L t a o now).L ∧ (∀ x ∈ (takeM nm tot ep L t a o now).L, 0 ≤ x.l ∧ x.l ≤ 1099511627776) ∧ (takeM nm tot ep L t a o now).L.length ≤ L.length + 1 ∧ ep ≤ (takeM nm tot ep L t a o now).ep ∧ (takeM nm tot ep L t a o now).ep ≤ ep + 1 := by
  have hn : ∀ was, Asc (newM L ep t a o now was).L ∧ (∀ x ∈ (newM L ep t a o now was).L, 0 ≤ x.l ∧ x.l ≤ 1099511627776) ∧ (newM L ep t a o now was).L.length ≤ L.length + 1 ∧ ep ≤ (newM L ep t a o now was).ep ∧ (newM L ep t a o now was).ep ≤ ep + 1 := fun was => by
    obtain ⟨h1, h2, h3, h4⟩ := newM_ok ep t a o now was hA hl
    exact ⟨h1, h2, h3, by omega, by omega⟩
  have ho : ∀ c, Asc (⟨L, ep, lse0, -1, c⟩ : TakeR).L ∧ (∀ x ∈ (⟨L, ep, lse0, -1, c⟩ : TakeR).L, 0 ≤ x.l ∧ x.l ≤ 1099511627776) ∧ (⟨L, ep, lse0, -1, c⟩ : TakeR).L.length ≤ L.length + 1 ∧ ep ≤ (⟨L, ep, lse0, -1, c⟩ : TakeR).ep ∧ (⟨L, ep, lse0, -1, c⟩ : TakeR).ep ≤ ep + 1 :=
    fun c => ⟨hA, hl, Nat.le_succ _, Int.le_refl _, by show ep ≤ ep + 1; omega⟩
  unfold takeM
  split
  · split
    · split
      · exact ho 9
      · exact hn _
    · split
      · exact ho 16
      · split
        · exact ho 7
        · exact hn _
  · exact ho 17
theorem beatM_ok {L : List Lse} (o now : Int) (hA : Asc L) (hl : ∀ x ∈ L, 0 ≤ x.l ∧ x.l ≤ 1099511627776) : Asc (L.map (updL o (tickI now))) ∧ ∀ x ∈ L.map (updL o (tickI now)), 0 ≤ x.l ∧ x.l ≤ 1099511627776 := by
  refine ⟨asc_map (updL_name _ _) hA, fun x hx => ?_⟩
  obtain ⟨y, hy, rfl⟩ := List.mem_map.1 hx
  have h1 := hl y hy
  have h2 := tickI_bd now
  unfold updL
  split
  · show 0 ≤ max y.l (tickI now) ∧ max y.l (tickI now) ≤ 1099511627776; omega
  · exact h1
theorem filter_ok {L : List Lse} (p : Lse → Bool) (hA : Asc L) (hl : ∀ x ∈ L, 0 ≤ x.l ∧ x.l ≤ 1099511627776) : Asc (L.filter p) ∧ ∀ x ∈ L.filter p, 0 ≤ x.l ∧ x.l ≤ 1099511627776 :=
  ⟨asc_filter hA, fun x hx => hl x (List.mem_filter.1 hx).1⟩
section
variable {w0 : World} {g b : Nat} {n tt l ep : Int} {L : List Lse} (w : World)
theorem h_new (w0 : World) (n tt l : Int) (w : World) (hb : Below w0.heap.size w0 w) : Calls Tryd.prog 8 #[.agg #[.int .i64 n, .int .i64 tt, .int .i64 l]] w fun e w' =>
    ∃ g b, e = .returned (.pointer (some ⟨g, 0, none⟩)) ∧ Hold w0 w' g b (max 0 (min n 64)) (max 0 (min tt 4096)) (max 1 (min l 1073741824)) 0 [] ∧ Below w.heap.size w w' ∧ w.heap.size ≤ g ∧ w.heap.size ≤ b := by
  refine (new_calls n tt l w).mono ?_
  rintro e w' ⟨b, g, rfl, h1, h2, h3, h4, h5, h6⟩
  have := hb.size
  exact ⟨g, b, rfl, ⟨hb.trans (h3.mono hb.size), h1, h2, List.Pairwise.nil, (Ne.symm h6), (fun x hx => by cases hx), by omega, by omega⟩, h3, h5, h4⟩
theorem h_take (h : Hold w0 w g b n tt l ep L) (E : Nat → Addr) (hE : Errs w0 E) (he : 0 ≤ ep ∧ ep ≤ 1000000) (hL : L.length ≤ 100000) (t a : ByteArray) (o now : Int) (ht : t.size ≤ maxLen) (ha : a.size ≤ maxLen) :
    Calls Tryd.prog 9 #[.pointer (some ⟨g, 0, none⟩), .string t, .string a, .int .i64 o, .int .i64 now] w fun e w' =>
      e = .returned (.tuple #[lseV (takeM n tt ep L t a o now).x, .int .i64 (takeM n tt ep L t a o now).was, errV E (takeM n tt ep L t a o now).code]) ∧ Hold w0 w' g b n tt l (takeM n tt ep L t a o now).ep (takeM n tt ep L t a o now).L ∧ Kept2 w w' g b := by
  refine (take_calls g b n tt l ep he L hL t a o now ht ha E w h.row h.tab (hE.below h.below) h.ne).mono ?_
  rintro e w' ⟨h1, h2, h3, h4⟩
  obtain ⟨k1, k2, _⟩ := takeM_ok n tt ep t a o now h.asc h.lasts
  exact ⟨h1, h.turned h4 h2 h3 k1 k2, h4⟩
theorem h_find (h : Hold w0 w g b n tt l ep L) (E : Nat → Addr) (hE : Errs w0 E) (t a : ByteArray) (ht : t.size ≤ maxLen) (ha : a.size ≤ maxLen) :
    Calls Tryd.prog 11 #[.pointer (some ⟨g, 0, none⟩), .string t, .string a] w fun e w' => e = .returned (.tuple #[lseV (foundX L t a), foundE (E 7) L t a]) ∧ Hold w0 w' g b n tt l ep L ∧ Below w.heap.size w w' :=
  (find_gen g b n tt l ep L t a ht ha (E 7) w h.row h.tab ((hE.below h.below).var 7 (by decide))).mono fun e w' ⟨h1, h2⟩ => ⟨h1, h.quiet h2, h2⟩
theorem h_cancel (h : Hold w0 w g b n tt l ep L) (E : Nat → Addr) (hE : Errs w0 E) (t a : ByteArray) (o : Int) (ht : t.size ≤ maxLen) (ha : a.size ≤ maxLen) :
    Calls Tryd.prog 21 #[.pointer (some ⟨g, 0, none⟩), .string t, .string a, .int .i64 o] w fun e w' =>
      e = .returned (.tuple #[lseV (cancelM L t a o).2.1, errV E (cancelM L t a o).2.2]) ∧ Hold w0 w' g b n tt l ep (cancelM L t a o).1 ∧ Kept2 w w' g b := by
  refine (cancel_calls g b n tt l ep L t a o ht ha E w h.row h.tab (hE.below h.below)).mono ?_
  rintro e w' ⟨h1, h2, h3⟩
  have hk : Asc (cancelM L t a o).1 ∧ ∀ x ∈ (cancelM L t a o).1, 0 ≤ x.l ∧ x.l ≤ 1099511627776 := by
    unfold cancelM
    split
    · split
      · exact filter_ok _ h.asc h.lasts
      · exact ⟨h.asc, h.lasts⟩
    · exact ⟨h.asc, h.lasts⟩
  exact ⟨h1, h.only h3 h2 hk.1 hk.2, Kept2.of_only h3 g⟩
theorem h_beat (h : Hold w0 w g b n tt l ep L) (hL : L.length ≤ 100000) (o now : Int) :
    Calls Tryd.prog 13 #[.pointer (some ⟨g, 0, none⟩), .int .i64 o, .int .i64 now] w fun e w' => e = .returned (.int .i64 (ownN o L)) ∧ Hold w0 w' g b n tt l ep (L.map (updL o (tickI now))) ∧ Kept2 w w' g b := by
  refine (beat_calls g b n tt l ep L h.asc hL h.tab.sz o now w h.row h.tab h.ne).mono ?_
  rintro e w' ⟨h1, h2, h3⟩
  obtain ⟨k1, k2⟩ := beatM_ok o now h.asc h.lasts
  exact ⟨h1, h.only h3 h2 k1 k2, Kept2.of_only h3 g⟩
theorem h_drop (h : Hold w0 w g b n tt l ep L) (hL : L.length ≤ 100000) (o : Int) :
    Calls Tryd.prog 22 #[.pointer (some ⟨g, 0, none⟩), .int .i64 o] w fun e w' => ∃ v, e = .returned v ∧ Lows w' w.heap.size 29 v (L.filter (isOwn o)) ∧ Hold w0 w' g b n tt l ep (L.filter fun y => !isOwn o y) ∧ Kept2 w w' g b := by
  refine (drop_calls g b n tt l ep L h.asc hL h.tab.sz o w h.row h.tab h.ne).mono ?_
  rintro e w' ⟨v, h1, h2, h3, h4⟩
  obtain ⟨k1, k2⟩ := filter_ok (fun y => !isOwn o y) h.asc h.lasts
  exact ⟨v, h1, h2, h.only h4 h3 k1 k2, Kept2.of_only h4 g⟩
theorem h_expire (h : Hold w0 w g b n tt l ep L) (hL : L.length ≤ 100000) (now : Int) :
    Calls Tryd.prog 10 #[.pointer (some ⟨g, 0, none⟩), .int .i64 now] w fun e w' => ∃ v, e = .returned v ∧ Lows w' w.heap.size 29 v (L.filter (isOver l (tickI now))) ∧ Hold w0 w' g b n tt l ep (L.filter fun y => !isOver l (tickI now) y) ∧ Kept2 w w' g b := by
  refine (expire_calls g b n tt l ep L h.asc hL h.tab.sz h.lasts now w h.row h.tab h.ne).mono ?_
  rintro e w' ⟨v, h1, h2, h3, h4⟩
  obtain ⟨k1, k2⟩ := filter_ok (fun y => !isOver l (tickI now) y) h.asc h.lasts
  exact ⟨v, h1, h2, h.only h4 h3 k1 k2, Kept2.of_only h4 g⟩
theorem h_all (h : Hold w0 w g b n tt l ep L) (hL : L.length ≤ 100000) :
    Calls Tryd.prog 17 #[.pointer (some ⟨g, 0, none⟩)] w fun e w' => ∃ v, e = .returned v ∧ Lows w' w.heap.size 29 v L ∧ Hold w0 w' g b n tt l ep L ∧ Below w.heap.size w w' :=
  (all_calls g b n tt l ep L h.asc hL w h.row h.tab).mono fun e w' ⟨v, h1, h2, h3⟩ => ⟨v, h1, h2, h.quiet h3, h3⟩
theorem h_count (h : Hold w0 w g b n tt l ep L) (hL : L.length ≤ 100000) (t : ByteArray) :
    Calls Tryd.prog 18 #[.pointer (some ⟨g, 0, none⟩), .string t] w fun e w' => e = .returned (.int .i64 (cntL L t)) ∧ Hold w0 w' g b n tt l ep L ∧ Below w.heap.size w w' :=
  (count_calls g b n tt l ep L hL t w h.row h.tab).mono fun e w' ⟨h1, h2⟩ => ⟨h1, h.quiet h2, h2⟩
end
end Go.Proofs.YtlkgdnmfgcmldaaDoor

/- The plain law of LeaseOne: limits and epochs. -/
import Derived.Test.YtlkgdnmfgcmldaaDoorLea32
namespace Go.Proofs.YtlkgdnmfgcmldaaDoor
open Go.RowKit Go.Spk
set_option linter.unusedVariables false
/-- Nobody holds more than may be; no epoch is beyond the last one. -/
structure OneI (n tt ep : Int) (L : List Lse) : Prop where
  len : (L.length : Int) ≤ tt
  cnt : ∀ t, (cntL L t : Int) ≤ n
  eps : ∀ x ∈ L, x.e ≤ ep
theorem cntL_permO {L M : List Lse} (h : L.Perm M) (t : ByteArray) : cntL L t = cntL M t := (h.filter _).length_eq
theorem cntL_filter (p : Lse → Bool) (L : List Lse) (t : ByteArray) : cntL (L.filter p) t ≤ cntL L t := by
  unfold cntL
  rw [List.filter_filter]
  have h : (L.filter fun a => decide (a.t = t) && p a) = (L.filter fun a => decide (a.t = t)).filter p := by
    rw [List.filter_filter]
    exact List.filter_congr (fun x _ => Bool.and_comm _ _)
  rw [h]
  exact List.length_filter_le _ _
theorem OneI.filter {n tt ep : Int} {L : List Lse} (h : OneI n tt ep L) (p : Lse → Bool) : OneI n tt ep (L.filter p) :=
  ⟨by have := List.length_filter_le p L; have := h.len; omega, fun t => by have := cntL_filter p L t; have := h.cnt t; omega, fun x hx => h.eps x (List.mem_filter.1 hx).1⟩
theorem OneI.map {n tt ep : Int} {L : List Lse} (h : OneI n tt ep L) (o tk : Int) : OneI n tt ep (L.map (updL o tk)) := by
  have hn : ∀ y : Lse, (updL o tk y).t = y.t ∧ (updL o tk y).e = y.e := fun y => by
    unfold updL; split <;> exact ⟨rfl, rfl⟩
  refine ⟨by rw [List.length_map]; exact h.len, fun t => ?_, fun x hx => ?_⟩
  · have e : cntL (L.map (updL o tk)) t = cntL L t := by
      unfold cntL
      rw [List.filter_map, List.length_map]
      congr 2
      funext y
      show decide ((updL o tk y).t = t) = _
      rw [(hn y).1]
    rw [e]; exact h.cnt t
  · obtain ⟨y, hy, rfl⟩ := List.mem_map.1 hx
    rw [(hn y).2]; exact h.eps y hy
theorem cntL_consO (x : Lse) (L : List Lse) (t : ByteArray) : cntL (x :: L) t = (if x.t = t then 1 else 0) + cntL L t := by
  unfold cntL
  rw [List.filter_cons]
  by_cases h : x.t = t <;> simp [h]
  omega
theorem strike_len {L : List Lse} {y : Lse} (hy : y ∈ L) : (L.filter (notN y.t y.a)).length + 1 ≤ L.length := by
  obtain ⟨L1, L2, rfl⟩ := List.append_of_mem hy
  have h0 : notN y.t y.a y = false := by unfold notN; simp
  rw [List.filter_append, List.filter_cons, h0, List.length_append, List.length_append, List.length_cons]
  have h1 := List.length_filter_le (notN y.t y.a) L1
  have h2 := List.length_filter_le (notN y.t y.a) L2
  simp only [Bool.false_eq_true, if_false]
  omega
theorem strike_cnt {L : List Lse} {y : Lse} (hy : y ∈ L) : cntL (L.filter (notN y.t y.a)) y.t + 1 ≤ cntL L y.t := by
  have hm : y ∈ L.filter (fun z => decide (z.t = y.t)) := List.mem_filter.2 ⟨hy, by simp⟩
  have h := strike_len hm
  unfold cntL
  rw [List.filter_filter]
  rw [List.filter_filter] at h
  rw [show (L.filter fun a => decide (a.t = y.t) && notN y.t y.a a) = L.filter (fun a => notN y.t y.a a && decide (a.t = y.t)) from List.filter_congr (fun x _ => Bool.and_comm _ _)]
  exact h
theorem OneI.ins {n tt ep : Int} {L : List Lse} (h : OneI n tt ep L) (x : Lse) (hx : x.e = ep + 1) (hc : (∃ y ∈ L, y.t = x.t ∧ y.a = x.a) ∨ ((cntL L x.t : Int) < n ∧ (L.length : Int) < tt)) : OneI n tt (ep + 1) (insL x L) := by
  have hp := insL_perm x L
  have hlen := hp.length_eq
  rw [List.length_cons] at hlen
  have hf := List.length_filter_le (notN x.t x.a) L
  refine ⟨?_, fun t => ?_, fun z hz => ?_⟩
  · rcases hc with ⟨y, hy, ht, ha⟩ | ⟨_, h2⟩
    · have := strike_len hy
      rw [ht, ha] at this
      have := h.len
      omega
    · omega
  · rw [← cntL_permO hp t, cntL_consO]
    have hq := cntL_filter (notN x.t x.a) L t
    have hn := h.cnt t
    by_cases htt : x.t = t
    · rw [if_pos htt]
      subst htt
      rcases hc with ⟨y, hy, ht, ha⟩ | ⟨h1, _⟩
      · have := strike_cnt hy
        rw [ht, ha] at this
        omega
      · omega
    · rw [if_neg htt]; omega
  · rcases mem_insL.1 hz with rfl | ⟨h1, _⟩
    · omega
    · have := h.eps z h1; omega
theorem OneI.take {n tt ep : Int} {L : List Lse} (h : OneI n tt ep L) (t a : ByteArray) (o now : Int) :
    OneI n tt (takeM n tt ep L t a o now).ep (takeM n tt ep L t a o now).L ∧
      ((takeM n tt ep L t a o now).code = 0 ∧ (takeM n tt ep L t a o now).x.e = ep + 1 ∧ (takeM n tt ep L t a o now).ep = ep + 1 ∨ (takeM n tt ep L t a o now).code ≠ 0 ∧ (takeM n tt ep L t a o now).ep = ep) := by
  have ho : ∀ c, c ≠ 0 → OneI n tt (⟨L, ep, lse0, -1, c⟩ : TakeR).ep (⟨L, ep, lse0, -1, c⟩ : TakeR).L ∧
      ((⟨L, ep, lse0, -1, c⟩ : TakeR).code = 0 ∧ (⟨L, ep, lse0, -1, c⟩ : TakeR).x.e = ep + 1 ∧ (⟨L, ep, lse0, -1, c⟩ : TakeR).ep = ep + 1 ∨ (⟨L, ep, lse0, -1, c⟩ : TakeR).code ≠ 0 ∧ (⟨L, ep, lse0, -1, c⟩ : TakeR).ep = ep) :=
    fun c hc => ⟨h, .inr ⟨hc, rfl⟩⟩
  unfold takeM
  split
  · split
    · rename_i y hlk
      split
      · exact ho 9 (by decide)
      · obtain ⟨hy, ht, ha⟩ := lookL_some hlk
        exact ⟨h.ins ⟨t, a, o, ep + 1, tickI now⟩ rfl (.inl ⟨y, hy, ht, ha⟩), .inl ⟨rfl, rfl, rfl⟩⟩
    · split
      · exact ho 16 (by decide)
      · split
        · exact ho 7 (by decide)
        · exact ⟨h.ins ⟨t, a, o, ep + 1, tickI now⟩ rfl (.inr ⟨by show (cntL L t : Int) < n; omega, by omega⟩), .inl ⟨rfl, rfl, rfl⟩⟩
  · exact ho 17 (by decide)
theorem OneI.step {n tt l ep : Int} {L : List Lse} (h : OneI n tt ep L) (x : Act) (hk : 1 ≤ x.k ∧ x.k ≤ 5) : OneI n tt (stepM n tt l ep L x).2 (stepM n tt l ep L x).1 ∧ (stepM n tt l ep L x).2 = ep := by
  unfold stepM
  split
  · exact ⟨h, rfl⟩
  split
  · refine ⟨?_, rfl⟩
    show OneI n tt ep (cancelM L _ _ _).1
    unfold cancelM
    split
    · split
      · exact h.filter _
      · exact h
    · exact h
  split
  · exact ⟨h.map _ _, rfl⟩
  split
  · exact ⟨h.filter _, rfl⟩
  split
  · exact ⟨h.filter _, rfl⟩
  · omega
end Go.Proofs.YtlkgdnmfgcmldaaDoor

/- Several texts of this claim in one. -/
import Derived.Test.YtmkipdleggkkkaaUd
import Derived.Test.YtmkipdleggkkkaaPBx5
import Derived.Test.YtmkipdleggkkkaaMay
/- What Fetch and Bytes come to, by the document. -/
namespace Go.Proofs.Ytmkipdleggkkkaa.Own
open Go.RowKit Go.Proofs.YtmkipdleggkkkaaW.PrintWords Go.Proofs.YtmkipdleggkkkaaW.PrintLast Go.Proofs.YtmkipdleggkkkaaW.PrintMore Go.Proofs.Ytmkipdleggkkkaa.Pu
set_option maxRecDepth 100000
set_option linter.unusedSimpArgs false
set_option linter.unusedVariables false
/-- The document's walk through the records. -/
def fetL (a most mk : Int) : List PB.S45 → List PB.S45 → Int → List PB.S45 × Int
  | [], acc, on => (acc, on)
  | x :: t, acc, on => if x.f0 ≥ a ∧ x.f0 < mk ∧ (acc.length : Int) < most ∧ (acc.length : Int) < 16 then fetL a most mk t (acc ++ [x]) (wrap64 (x.f0 + 1)) else fetL a most mk t acc on
theorem fetL_ev (l : List PB.S45) (a most st nx mk er : Int) (hl : l.length ≤ 60000) : ∀ (n k : Nat) (acc : List PB.S45) (on : Int), k + n = l.length → acc.length ≤ 16 →
    Ev (fun q => PB.weighlockref19_Part_Fetch.l0 q a most l (l.length : Int) (k : Int) l st nx mk acc on er) ((fetL a most mk (l.drop k) acc on).1, (fetL a most mk (l.drop k) acc on).2, er) := by
  intro n
  induction n with
  | zero =>
    intro k acc on h h16
    rw [List.drop_of_length_le (by omega)]
    exact Ev.step (fun q => PB.weighlockref19_Part_Fetch.l0.eq_2 ..) (Ev.neg (by omega) (Ev.cst rfl))
  | succ n ih =>
    intro k acc on h h16
    have hk : k < l.length := by omega
    have hw : wrap64 ((k : Int) + 1) = ((k + 1 : Nat) : Int) := by unfold wrap64; omega
    refine Ev.step (fun q => PB.weighlockref19_Part_Fetch.l0.eq_2 ..) (Ev.pos (by omega) (Ev.pos (by omega) (Ev.pos (by omega) ?_)))
    rw [rd_get l k hk, List.drop_eq_getElem_cons hk, fetL, hw]
    have hi := ih (k + 1) acc on (by omega) h16
    by_cases h1 : l[k].f0 ≥ a
    · refine Ev.pos h1 ?_
      by_cases h2 : l[k].f0 < mk
      · refine Ev.pos h2 ?_
        by_cases h3 : (acc.length : Int) < most
        · refine Ev.pos h3 ?_
          by_cases h4 : (acc.length : Int) < 16
          · rw [if_pos ⟨h1, h2, h3, h4⟩]
            exact Ev.pos h4 (Ev.pos (by omega) (ih (k + 1) (acc ++ [l[k]]) (wrap64 (l[k].f0 + 1)) (by omega) (by rw [List.length_append, List.length_singleton]; omega)))
          · rw [if_neg (fun h => h4 h.2.2.2)]; exact Ev.neg h4 hi
        · rw [if_neg (fun h => h3 h.2.2.1)]; exact Ev.neg h3 hi
      · rw [if_neg (fun h => h2 h.2.1)]; exact Ev.neg h2 hi
    · rw [if_neg (fun h => h1 h.1)]; exact Ev.neg h1 hi
theorem fetL_append (a most mk : Int) (ys : List PB.S45) (xs : List PB.S45) : ∀ acc on, fetL a most mk (xs ++ ys) acc on = fetL a most mk ys (fetL a most mk xs acc on).1 (fetL a most mk xs acc on).2 := by
  induction xs with
  | nil => intro acc on; rfl
  | cons x t ih =>
    intro acc on
    rw [List.cons_append, fetL, fetL]
    split <;> exact ih _ _
theorem fetL_skip (a most mk : Int) (xs : List PB.S45) : ∀ (acc : List PB.S45) (on : Int), ((∀ x ∈ xs, x.f0 < a) ∨ (∀ x ∈ xs, mk ≤ x.f0) ∨ most ≤ (acc.length : Int) ∨ 16 ≤ acc.length) → fetL a most mk xs acc on = (acc, on) := by
  induction xs with
  | nil => intro acc on _; rfl
  | cons x t ih =>
    intro acc on h
    rw [fetL, if_neg ?_]
    · refine ih acc on ?_
      rcases h with h | h | h | h
      · exact Or.inl (fun z hz => h z (List.mem_cons_of_mem _ hz))
      · exact Or.inr (Or.inl (fun z hz => h z (List.mem_cons_of_mem _ hz)))
      · exact Or.inr (Or.inr (Or.inl h))
      · exact Or.inr (Or.inr (Or.inr h))
    · rintro ⟨h1, h2, h3, h4⟩
      rcases h with h | h | h | h
      · have := h x (List.mem_cons_self ..); omega
      · have := h x (List.mem_cons_self ..); omega
      · omega
      · omega
theorem fetL_take (a most mk : Int) (xs : List PB.S45) : ∀ (acc : List PB.S45) (on : Int), (∀ x ∈ xs, a ≤ x.f0 ∧ x.f0 < mk) → ((acc.length + xs.length : Nat) : Int) ≤ most → acc.length + xs.length ≤ 16 → fetL a most mk xs acc on = (acc ++ xs, nxt xs on) := by
  induction xs with
  | nil => intro acc on _ _ _; rw [List.append_nil]; rfl
  | cons x t ih =>
    intro acc on h h1 h2
    rw [List.length_cons] at h1 h2
    have hx := h x (List.mem_cons_self ..)
    rw [fetL, if_pos ⟨hx.1, hx.2, by omega, by omega⟩, ih (acc ++ [x]) _ (fun z hz => h z (List.mem_cons_of_mem _ hz)) (by rw [List.length_append, List.length_singleton]; omega) (by rw [List.length_append, List.length_singleton]; omega), List.append_assoc]
    rfl
/-- What the program tells is what the document tells. -/
theorem fetL_eq {l : List PB.S45} {a most mk : Int} {N m k : Nat} (hs : risen l) (hN : most = (N : Int) ∧ 1 ≤ N ∧ N < 16 ∨ most = 16 ∧ N = 16 ∨ 16 < most ∧ N = 16) (hm : cutAt l a m) (hk : k ≤ (l.drop m).length) (hkN : k ≤ N) (hlow : ∀ t, t < k → (PB.rd_T45 (l.drop m) (t : Int)).f0 < mk)
    (hstop : k = (l.drop m).length ∨ k = N ∨ mk ≤ (PB.rd_T45 (l.drop m) (k : Int)).f0) :
    fetL a most mk l [] mk = ((l.drop m).take k, if k = 0 then mk else wrap64 ((PB.rd_T45 (l.drop m) ((k - 1 : Nat) : Int)).f0 + 1)) := by
  have hd := cut_from_eq hm
  have hsd : (l.drop m).Pairwise (fun x y => x.f0 < y.f0) := ((risen_iff l).1 hs).drop
  have h1 : ∀ x ∈ l.take m, x.f0 < a := fun x hx => by
    obtain ⟨i, hi, rfl⟩ := List.getElem_of_mem hx
    rw [List.length_take] at hi
    rw [List.getElem_take]
    have := hm.2.1 i (by omega)
    rwa [rd_get l i (by omega)] at this
  have h2 : ∀ x ∈ l.drop m, a ≤ x.f0 := fun x hx => by
    rw [hd] at hx
    have := (List.mem_filter.1 hx).2
    simpa using this
  have e : fetL a most mk l [] mk = fetL a most mk (l.drop m) [] mk := by
    have e0 : fetL a most mk (l.take m ++ l.drop m) [] mk = fetL a most mk (l.drop m) [] mk := by rw [fetL_append, fetL_skip a most mk (l.take m) [] mk (Or.inl h1)]
    rwa [List.take_append_drop] at e0
  generalize l.drop m = d at *
  rw [e]
  have e2 : fetL a most mk d [] mk = fetL a most mk (d.drop k) (fetL a most mk (d.take k) [] mk).1 (fetL a most mk (d.take k) [] mk).2 := by rw [← fetL_append, List.take_append_drop]
  have hlt : (d.take k).length = k := by rw [List.length_take]; omega
  have e3 : fetL a most mk (d.take k) [] mk = (d.take k, nxt (d.take k) mk) := by
    rw [fetL_take a most mk (d.take k) [] mk ?_ ?_ ?_, List.nil_append]
    · intro x hx
      refine ⟨h2 x (List.mem_of_mem_take hx), ?_⟩
      obtain ⟨i, hi, rfl⟩ := List.getElem_of_mem hx
      rw [hlt] at hi
      rw [List.getElem_take]
      have := hlow i hi
      rwa [rd_get d i (by omega)] at this
    · rw [hlt, List.length_nil]; omega
    · rw [hlt, List.length_nil]; omega
  rw [e2, e3, fetL_skip]
  · refine Prod.ext rfl ?_
    show nxt (d.take k) mk = _
    by_cases h0 : k = 0
    · subst h0; rfl
    · rw [if_neg h0]
      have := nxt_take d mk (k - 1) (by omega)
      rwa [show k - 1 + 1 = k by omega] at this
  · rcases hstop with h | h | h
    · refine Or.inl (fun x hx => ?_)
      rw [List.drop_of_length_le (by omega)] at hx; cases hx
    · rw [hlt]
      rcases hN with ⟨q1, q2, q3⟩ | ⟨q1, q2⟩ | ⟨q1, q2⟩
      · exact Or.inr (Or.inr (Or.inl (by omega)))
      · exact Or.inr (Or.inr (Or.inr (by omega)))
      · exact Or.inr (Or.inr (Or.inr (by omega)))
    · refine Or.inr (Or.inl (fun x hx => ?_))
      obtain ⟨i, hi, rfl⟩ := List.getElem_of_mem hx
      rw [List.length_drop] at hi
      rw [List.getElem_drop]
      rw [rd_get d k (by omega)] at h
      rcases Nat.eq_zero_or_pos i with rfl | hi0
      · simpa using h
      · have := (List.pairwise_iff_getElem.1 hsd) k (k + i) (by omega) (by omega) (by omega)
        omega
end Go.Proofs.Ytmkipdleggkkkaa.Own
/- The document's bytes of a record. -/
namespace Go.Proofs.Ytmkipdleggkkkaa.Pu
open Go.RowKit Go.Proofs.YtmkipdleggkkkaaW.PrintWords Go.Proofs.YtmkipdleggkkkaaW.PrintMore Go.Proofs.Ytmkipdleggkkkaa.PB
set_option linter.unusedSimpArgs false
set_option linter.unusedVariables false
theorem u64_id {a : Int} (h0 : 0 ≤ a) (h1 : a < 18446744073709551616) : IntKind.u64.wrap a = a := IntWalk.u64_in _ (by omega)
theorem byte1 (v : Nat) (h : v < 256) : strOfNums [((v : Int)) % 256] = Own.sB [UInt8.ofNat v] := by
  rw [show ((v : Int)) % 256 = (v : Int) by omega]
  rfl
theorem refChain_ev (v : Nat) : v < 18446744073709551616 → Ev (fun k => weighlockref01_Chain.f k (v : Int)) (Own.sB (Own.chainL v)) := by
  induction v using Nat.strongRecOn with
  | ind v ih =>
    intro hv
    by_cases h : v < 128
    · refine Ev.step (fun k => weighlockref01_Chain.f.eq_2 ..) (Ev.pos (by omega) (Ev.get (Ev.now _) ?_))
      rw [Own.chainL_lt h, byte1 v (by omega)]
    · have e1 : IntKind.u64.wrap (Int.tdiv (v : Int) 128) = ((v / 128 : Nat) : Int) := by
        rw [Int.tdiv_eq_ediv_of_nonneg (by omega), u64_id (by omega) (by omega)]; omega
      have e2 : IntKind.u64.wrap (128 + Int.tmod (v : Int) 128) = ((v % 128 + 128 : Nat) : Int) := by
        rw [Int.tmod_eq_emod_of_nonneg (by omega), u64_id (by omega) (by omega)]; omega
      refine Ev.step (fun k => weighlockref01_Chain.f.eq_2 ..) (Ev.neg (by omega) ?_)
      simp only [e1, e2, Option.bind_some]
      have hl := Own.chainL_len10 (v := v / 128) (by omega)
      refine Ev.bind (ih (v / 128) (by omega) (by omega)) (Ev.pos ?_ (Ev.get (Ev.now _) ?_))
      · rw [strOfNums_size, Own.sB_size]; simp; omega
      · rw [byte1 _ (by omega), Own.sB_append, Own.chainL_ge (v := v) (by omega)]; rfl
theorem refchain_ev (a : Int) (h0 : 0 ≤ a) (h1 : a ≤ 1099511627776) : Ev (fun k => weighlockref16_chain.f k a) (Own.sB (Own.chainL a.toNat)) := by
  obtain ⟨n, rfl⟩ := Int.eq_ofNat_of_zero_le h0
  unfold weighlockref16_chain.f
  rw [u64_id h0 (by omega)]
  exact Ev.bind (refChain_ev n (by omega)) (Ev.now _)
theorem refText_ev (t : ByteArray) (h : t.size ≤ 1000) : Ev (fun k => weighlockref01_Text.f k t) (Own.sB (Own.textL t)) := by
  unfold weighlockref01_Text.f
  rw [u64_id (by omega) (by omega)]
  have hl := Own.chainL_len10 (v := t.size) (by omega)
  refine Ev.bind (refChain_ev t.size (by omega)) (Ev.pos (by rw [Own.sB_size]; omega) (Ev.get (Ev.now _) ?_))
  rw [Own.textL, ← Own.sB_append, Own.sB_of]
theorem refEnc_ev (x0 x1 : Int) (x2 x3 : ByteArray) (x4 : Bool) (x5 x6 x7 : Int) (h : PuB.mayB ⟨x0, x1, x2, x3, x4, x5, x6, x7⟩ = true) : Ev (fun k => weighlockref16_Encode.f k x0 x1 x2 x3 x4 x5 x6 x7) (Own.sB (Own.recL x0.toNat x1.toNat x5.toNat x6.toNat x7.toNat x4 x2 x3)) := by
  rw [PuB.mayB_iff] at h
  obtain ⟨⟨a, b⟩, ⟨c, d⟩, ⟨e, f⟩, ⟨g, i⟩, ⟨j, l⟩, m⟩ := h
  rw [PuB.restB_iff] at m
  simp only at *
  obtain ⟨_, m1, m2, _⟩ := m
  have key : Ev (fun k => weighlockref16_Encode.j0 k (Own.sB (Own.chainL (if x4 then 1 else 0))) x0 x1 x2 x3 x4 x5 x6 x7) (Own.sB (Own.recL x0.toNat x1.toNat x5.toNat x6.toNat x7.toNat x4 x2 x3)) := by
    have l0 := Own.chainL_len10 (v := x0.toNat) (by omega)
    have l1 := Own.chainL_len10 (v := x1.toNat) (by omega)
    have l5 := Own.chainL_len10 (v := x5.toNat) (by omega)
    have l6 := Own.chainL_len10 (v := x6.toNat) (by omega)
    have l7 := Own.chainL_len10 (v := x7.toNat) (by omega)
    have l4 := Own.chainL_len10 (v := if x4 then 1 else 0) (by split <;> omega)
    have t2 := Own.textL_length x2 (by omega)
    have t3 := Own.textL_length x3 (by omega)
    refine Ev.step (fun k => weighlockref16_Encode.j0.eq_2 ..) ?_
    refine Ev.bind (refchain_ev x0 a (by omega)) (Ev.bind (refchain_ev x1 c d) (Ev.pos ?_ (Ev.bind (refchain_ev x5 e f) (Ev.pos ?_ (Ev.bind (refchain_ev x6 g i) (Ev.pos ?_ (Ev.bind (refchain_ev x7 j l) (Ev.pos ?_ (Ev.pos ?_ (Ev.bind (refText_ev x2 (by omega)) (Ev.pos ?_ (Ev.bind (refText_ev x3 (by omega)) (Ev.pos ?_ (Ev.get (Ev.now _) ?_))))))))))))))
    all_goals try simp only [Own.sB_append]
    all_goals try (simp only [Own.sB_size, List.length_append]; omega)
    rfl
  unfold weighlockref16_Encode.f
  cases x4
  · refine Ev.neg (by decide) ?_
    have e : Own.sB (Own.chainL (if false = true then 1 else 0)) = (⟨#[0]⟩ : ByteArray) := by rw [if_neg (by decide), Own.chainL_lt (by decide)]; rfl
    rwa [e] at key
  · refine Ev.pos rfl ?_
    have e : Own.sB (Own.chainL (if true = true then 1 else 0)) = (⟨#[1]⟩ : ByteArray) := by rw [if_pos rfl, Own.chainL_lt (by decide)]; rfl
    rwa [e] at key
end Go.Proofs.Ytmkipdleggkkkaa.Pu
/- The walk of act. -/
namespace Go.Proofs.Ytmkipdleggkkkaa.Own
open Go.RowKit Go.Proofs.YtmkipdleggkkkaaW.PrintWords Go.Proofs.YtmkipdleggkkkaaW.PrintLast Go.Proofs.YtmkipdleggkkkaaW.PrintMore Go.Proofs.Ytmkipdleggkkkaa.Pu
set_option maxRecDepth 100000
set_option linter.unusedSimpArgs false
set_option linter.unusedVariables false
theorem Src.both {S S2 : Nat → Prop} {A : Option Addr} {n : Nat} (h : Src S A n) (h2 : Src S2 A n) : Src (fun b => S b ∧ S2 b) A n := fun hp ad ea => ⟨h hp ad ea, h2 hp ad ea⟩
set_option maxHeartbeats 4000000 in
theorem act_any {S : Nat → Prop} {A : Option Addr} {c : Nat} {s : DSt} {w : World} (hC : Kd.C PB.k45 w A s.l.length s.l) (hc : s.l.length ≤ c) (hl : s.l.length ≤ 60000) (hS : Src S A s.l.length) (hN : ∀ b, w.heap.size ≤ b → S b)
    (kd n m : Int) (A2 : Option Addr) (c2 : Nat) (xs : List PB.S45) (hx : Kd.C PB.k45 w A2 xs.length xs) (hc2 : xs.length ≤ c2) (hl2 : xs.length ≤ 60000) (hS2 : Src S A2 xs.length) :
    Calls Try.prog 18 #[.agg #[.slice A s.l.length c, .int .i64 s.st, .int .i64 s.nx, .int .i64 s.mr], .agg #[.int .i64 kd, .int .i64 n, .int .i64 m, .slice A2 xs.length c2]] w fun e w' => DocIs S (actS s kd n m xs).1 (actS s kd n m xs).2 w e w' := by
  have hT := (hS.both (src_old hC)).mono (S2 := fun b => S b ∧ b ≠ w.heap.size + 2) (fun b hb => ⟨hb.1, by omega⟩)
  have hT2 := (hS2.both (src_old hx)).mono (S2 := fun b => S b ∧ b ≠ w.heap.size + 2) (fun b hb => ⟨hb.1, by omega⟩)
  have HT := Lib.hid hT
  have HT2 := Lib.hid hT2
  clear hT hT2 hS hS2
  have b1 : Below w.heap.size w (((w.alloc (.cells #[.slice A s.l.length c, .int .i64 s.st, .int .i64 s.nx, .int .i64 s.mr] 35)).alloc (.cells #[.int .i64 kd, .int .i64 n, .int .i64 m, .slice A2 xs.length c2] 37)).alloc (.cells #[.slice none 0 0, .int .i64 0, .int .i64 0, .int .i64 0, .int .i64 0] 41)) := (((Below.refl _ _).alloc (Nat.le_refl _) _).alloc (by simp) _).alloc (by simp; omega) _
  have hb0 : (((w.alloc (.cells #[.slice A s.l.length c, .int .i64 s.st, .int .i64 s.nx, .int .i64 s.mr] 35)).alloc (.cells #[.int .i64 kd, .int .i64 n, .int .i64 m, .slice A2 xs.length c2] 37)).alloc (.cells #[.slice none 0 0, .int .i64 0, .int .i64 0, .int .i64 0, .int .i64 0] 41)).heap[w.heap.size]? = some (.cells #[.slice A s.l.length c, .int .i64 s.st, .int .i64 s.nx, .int .i64 s.mr] 35 (0, 0)) := by rw [heap_old _ _ (by simp; omega), heap_old _ _ (by simp), heap_new]
  have hb1 : (((w.alloc (.cells #[.slice A s.l.length c, .int .i64 s.st, .int .i64 s.nx, .int .i64 s.mr] 35)).alloc (.cells #[.int .i64 kd, .int .i64 n, .int .i64 m, .slice A2 xs.length c2] 37)).alloc (.cells #[.slice none 0 0, .int .i64 0, .int .i64 0, .int .i64 0, .int .i64 0] 41)).heap[w.heap.size + 1]? = some (.cells #[.int .i64 kd, .int .i64 n, .int .i64 m, .slice A2 xs.length c2] 37 (0, 0)) := by rw [heap_old _ _ (by simp)]; simpa using heap_new (w.alloc (.cells #[.slice A s.l.length c, .int .i64 s.st, .int .i64 s.nx, .int .i64 s.mr] 35)) (.cells #[.int .i64 kd, .int .i64 n, .int .i64 m, .slice A2 xs.length c2] 37)
  have hb2 : (((w.alloc (.cells #[.slice A s.l.length c, .int .i64 s.st, .int .i64 s.nx, .int .i64 s.mr] 35)).alloc (.cells #[.int .i64 kd, .int .i64 n, .int .i64 m, .slice A2 xs.length c2] 37)).alloc (.cells #[.slice none 0 0, .int .i64 0, .int .i64 0, .int .i64 0, .int .i64 0] 41)).heap[w.heap.size + 2]? = some (.cells #[.slice none 0 0, .int .i64 0, .int .i64 0, .int .i64 0, .int .i64 0] 41 (0, 0)) := by simpa using heap_new ((w.alloc (.cells #[.slice A s.l.length c, .int .i64 s.st, .int .i64 s.nx, .int .i64 s.mr] 35)).alloc (.cells #[.int .i64 kd, .int .i64 n, .int .i64 m, .slice A2 xs.length c2] 37)) (.cells #[.slice none 0 0, .int .i64 0, .int .i64 0, .int .i64 0, .int .i64 0] 41)
  have hz : (((w.alloc (.cells #[.slice A s.l.length c, .int .i64 s.st, .int .i64 s.nx, .int .i64 s.mr] 35)).alloc (.cells #[.int .i64 kd, .int .i64 n, .int .i64 m, .slice A2 xs.length c2] 37)).alloc (.cells #[.slice none 0 0, .int .i64 0, .int .i64 0, .int .i64 0, .int .i64 0] 41)).heap.size = w.heap.size + 3 := by simp
  have HC0 := Lib.hid hC
  have HC := Lib.hid (Kd.C_below hC b1)
  have HX := Lib.hid (Kd.C_below hx b1)
  have hN3 : ∀ b, (((w.alloc (.cells #[.slice A s.l.length c, .int .i64 s.st, .int .i64 s.nx, .int .i64 s.mr] 35)).alloc (.cells #[.int .i64 kd, .int .i64 n, .int .i64 m, .slice A2 xs.length c2] 37)).alloc (.cells #[.slice none 0 0, .int .i64 0, .int .i64 0, .int .i64 0, .int .i64 0] 41)).heap.size ≤ b → S b ∧ b ≠ w.heap.size + 2 := fun b hb => ⟨hN b (by omega), by omega⟩
  have HN3 := Lib.hid hN3
  have B1 := Lib.hid b1
  have HB0 := Lib.hid hb0
  have HB1 := Lib.hid hb1
  have HB2 := Lib.hid hb2
  clear hC hx b1 hb0 hb1 hb2 hz hN3 hN
  have KS := Lib.hid (show actS s kd n m xs = actS s kd n m xs from rfl)
  go_enter Try.func18, Try.ntmps18
  by_cases h0 : kd = 0
  · subst h0
    have e : actS s 0 n m xs = appS s xs := by unfold actS; simp
    rw [e]
    clear e KS
    go_wp2_with fail
    refine (appC (S := fun b => S b ∧ b ≠ w.heap.size + 2) HC.out hc hl HT.out HN3.out A2 c2 xs HX.out hc2 hl2).mono ?_
    generalize hrr : appS s xs = r
    obtain ⟨⟨L', st', nx', mr'⟩, er⟩ := r
    have HRR := Lib.hid hrr; clear hrr
    rintro e w4 ⟨A', c', rfl, h1, h2, h3, h4⟩
    dsimp only at h1 h2 h3 ⊢
    have HS2 := Lib.hid (blk_below HB2.out h4)
    have B4 := Lib.hid (below_two B1.out h4); clear h4
    have SR := Lib.hid h3; clear h3
    have C4 := Lib.hid h2; clear h2
    have r0 := blk_cell HS2.out 0
    have f0 := blk_free HS2.out 0
    have r1 := blk_cell HS2.out 1
    have f1 := blk_free HS2.out 1
    have r2 := blk_cell HS2.out 2
    have f2 := blk_free HS2.out 2
    have r3 := blk_cell HS2.out 3
    have f3 := blk_free HS2.out 3
    have r4 := blk_cell HS2.out 4
    have f4 := blk_free HS2.out 4
    simp at r0 r1 r2 r3 r4
    unfold dv
    go_wp2
    refine bodyPost_ret (v := dv A' L'.length c' st' nx' mr' er) (by simp [results, Try.results18, go_sem, dv, *]) rfl ?_
    rw [HRR.out]
    refine ⟨A', c', rfl, h1, ?_, SR.out.mono (fun b hb => hb.1), ?_⟩
    · iterate 5 refine C_set ?_ (SR.out.mono (fun b hb => hb.2)) _ _
      exact C4.out
    · iterate 5 refine below_set (w := w) (g := w.heap.size + 2) ?_ (by omega)
      exact B4.out
  have g0 : (kd == 0) = false := by rw [beq_eq_false_iff_ne]; exact h0
  by_cases h1 : kd = 1
  · subst h1
    have e : actS s 1 n m xs = trimS s n := by unfold actS; simp
    rw [e]
    clear e KS
    go_wp2_with fail
    refine (trimC (S := fun b => S b ∧ b ≠ w.heap.size + 2) HC.out hc hl HT.out HN3.out n).mono ?_
    generalize hrr : trimS s n = r
    obtain ⟨⟨L', st', nx', mr'⟩, er⟩ := r
    have HRR := Lib.hid hrr; clear hrr
    rintro e w4 ⟨A', c', rfl, h1, h2, h3, h4⟩
    dsimp only at h1 h2 h3 ⊢
    have HS2 := Lib.hid (blk_below HB2.out h4)
    have B4 := Lib.hid (below_two B1.out h4); clear h4
    have SR := Lib.hid h3; clear h3
    have C4 := Lib.hid h2; clear h2
    have r0 := blk_cell HS2.out 0
    have f0 := blk_free HS2.out 0
    have r1 := blk_cell HS2.out 1
    have f1 := blk_free HS2.out 1
    have r2 := blk_cell HS2.out 2
    have f2 := blk_free HS2.out 2
    have r3 := blk_cell HS2.out 3
    have f3 := blk_free HS2.out 3
    have r4 := blk_cell HS2.out 4
    have f4 := blk_free HS2.out 4
    simp at r0 r1 r2 r3 r4
    unfold dv
    go_wp2
    refine bodyPost_ret (v := dv A' L'.length c' st' nx' mr' er) (by simp [results, Try.results18, go_sem, dv, *]) rfl ?_
    rw [HRR.out]
    refine ⟨A', c', rfl, h1, ?_, SR.out.mono (fun b hb => hb.1), ?_⟩
    · iterate 5 refine C_set ?_ (SR.out.mono (fun b hb => hb.2)) _ _
      exact C4.out
    · iterate 5 refine below_set (w := w) (g := w.heap.size + 2) ?_ (by omega)
      exact B4.out
  have g1 : (kd == 1) = false := by rw [beq_eq_false_iff_ne]; exact h1
  by_cases h2 : kd = 2
  · subst h2
    have e : actS s 2 n m xs = repS s xs := by unfold actS; simp
    rw [e]
    clear e KS
    go_wp2_with fail
    refine (repC (S := fun b => S b ∧ b ≠ w.heap.size + 2) HC.out hc hl HT.out A2 c2 xs HX.out hc2 hl2 HT2.out).mono ?_
    generalize hrr : repS s xs = r
    obtain ⟨⟨L', st', nx', mr'⟩, er⟩ := r
    have HRR := Lib.hid hrr; clear hrr
    rintro e w4 ⟨A', c', rfl, h1, h2, h3, h4⟩
    dsimp only at h1 h2 h3 ⊢
    have HS2 := Lib.hid (blk_below HB2.out h4)
    have B4 := Lib.hid (below_two B1.out h4); clear h4
    have SR := Lib.hid h3; clear h3
    have C4 := Lib.hid h2; clear h2
    have r0 := blk_cell HS2.out 0
    have f0 := blk_free HS2.out 0
    have r1 := blk_cell HS2.out 1
    have f1 := blk_free HS2.out 1
    have r2 := blk_cell HS2.out 2
    have f2 := blk_free HS2.out 2
    have r3 := blk_cell HS2.out 3
    have f3 := blk_free HS2.out 3
    have r4 := blk_cell HS2.out 4
    have f4 := blk_free HS2.out 4
    simp at r0 r1 r2 r3 r4
    unfold dv
    go_wp2
    refine bodyPost_ret (v := dv A' L'.length c' st' nx' mr' er) (by simp [results, Try.results18, go_sem, dv, *]) rfl ?_
    rw [HRR.out]
    refine ⟨A', c', rfl, h1, ?_, SR.out.mono (fun b hb => hb.1), ?_⟩
    · iterate 5 refine C_set ?_ (SR.out.mono (fun b hb => hb.2)) _ _
      exact C4.out
    · iterate 5 refine below_set (w := w) (g := w.heap.size + 2) ?_ (by omega)
      exact B4.out
  have g2 : (kd == 2) = false := by rw [beq_eq_false_iff_ne]; exact h2
  by_cases h3 : kd = 3
  · subst h3
    have e : actS s 3 n m xs = setS s n m := by unfold actS; simp
    rw [e]
    clear e KS
    go_wp2_with fail
    refine (setC (S := fun b => S b ∧ b ≠ w.heap.size + 2) HC.out hc HT.out n m).mono ?_
    generalize hrr : setS s n m = r
    obtain ⟨⟨L', st', nx', mr'⟩, er⟩ := r
    have HRR := Lib.hid hrr; clear hrr
    rintro e w4 ⟨A', c', rfl, h1, h2, h3, h4⟩
    dsimp only at h1 h2 h3 ⊢
    have HS2 := Lib.hid (blk_below HB2.out h4)
    have B4 := Lib.hid (below_two B1.out h4); clear h4
    have SR := Lib.hid h3; clear h3
    have C4 := Lib.hid h2; clear h2
    have r0 := blk_cell HS2.out 0
    have f0 := blk_free HS2.out 0
    have r1 := blk_cell HS2.out 1
    have f1 := blk_free HS2.out 1
    have r2 := blk_cell HS2.out 2
    have f2 := blk_free HS2.out 2
    have r3 := blk_cell HS2.out 3
    have f3 := blk_free HS2.out 3
    have r4 := blk_cell HS2.out 4
    have f4 := blk_free HS2.out 4
    simp at r0 r1 r2 r3 r4
    unfold dv
    go_wp2
    refine bodyPost_ret (v := dv A' L'.length c' st' nx' mr' er) (by simp [results, Try.results18, go_sem, dv, *]) rfl ?_
    rw [HRR.out]
    refine ⟨A', c', rfl, h1, ?_, SR.out.mono (fun b hb => hb.1), ?_⟩
    · iterate 5 refine C_set ?_ (SR.out.mono (fun b hb => hb.2)) _ _
      exact C4.out
    · iterate 5 refine below_set (w := w) (g := w.heap.size + 2) ?_ (by omega)
      exact B4.out
  have g3 : (kd == 3) = false := by rw [beq_eq_false_iff_ne]; exact h3
  by_cases h4 : kd = 4
  · subst h4
    have e : actS s 4 n m xs = (⟨s.l, s.st, s.nx, s.nx⟩, 0) := by unfold actS; simp
    rw [e]
    clear e KS
    go_wp2
    refine bodyPost_ret (v := dv A s.l.length c s.st s.nx s.nx 0) (by simp [results, Try.results18, go_sem, dv, *]) rfl ?_
    have b1' := (((Below.refl w.heap.size w).alloc (Nat.le_refl _) (.cells #[.slice A s.l.length c, .int .i64 s.st, .int .i64 s.nx, .int .i64 s.nx] 35)).alloc (by simp) (.cells #[.int .i64 4, .int .i64 n, .int .i64 m, .slice A2 xs.length c2] 37)).alloc (by simp; omega) (.cells #[.slice A s.l.length c, .int .i64 s.st, .int .i64 s.nx, .int .i64 s.nx, .int .i64 0] 41)
    exact ⟨A, c, rfl, hc, Kd.C_below HC0.out b1', HT.out.mono (fun b hb => hb.1), b1'⟩
  have g4 : (kd == 4) = false := by rw [beq_eq_false_iff_ne]; exact h4
  have e : actS s kd n m xs = (s, 0) := by unfold actS; simp [*]
  rw [e]
  clear e KS
  go_wp2
  refine bodyPost_ret (v := dv A s.l.length c s.st s.nx s.mr 0) (by simp [results, Try.results18, go_sem, dv, *]) rfl ?_
  have b1' := (((Below.refl w.heap.size w).alloc (Nat.le_refl _) (.cells #[.slice A s.l.length c, .int .i64 s.st, .int .i64 s.nx, .int .i64 s.mr] 35)).alloc (by simp) (.cells #[.int .i64 kd, .int .i64 n, .int .i64 m, .slice A2 xs.length c2] 37)).alloc (by simp; omega) (.cells #[.slice A s.l.length c, .int .i64 s.st, .int .i64 s.nx, .int .i64 s.mr, .int .i64 0] 41)
  exact ⟨A, c, rfl, hc, Kd.C_below HC0.out b1', HT.out.mono (fun b hb => hb.1), b1'⟩
end Go.Proofs.Ytmkipdleggkkkaa.Own
/- The program's calls do what the document's come to; the walks of the document's Fetch and Bytes, and of done. -/
namespace Go.Proofs.Ytmkipdleggkkkaa.Own
open Go.RowKit Go.Proofs.YtmkipdleggkkkaaW.PrintWords Go.Proofs.YtmkipdleggkkkaaW.PrintLast Go.Proofs.YtmkipdleggkkkaaW.PrintMore Go.Proofs.Ytmkipdleggkkkaa.Pu
set_option maxRecDepth 100000
set_option linter.unusedSimpArgs false
set_option linter.unusedVariables false
/-- What a call leaves of the program's partition. -/
def PartIs (B g : Nat) (v : Value) (r : DSt × Int) (w : World) (e : Ending) (w' : World) : Prop :=
  e = .returned (.int .i64 r.2) ∧ ∃ v', PS B g v' r.1.l r.1.st r.1.nx r.1.mr w' ∧ IV r.1 ∧ Fr g v w w' ∧ Nw v v' w
section
variable {B g : Nat} {v : Value} {s : DSt} {w : World}
theorem same_part (h : PS B g v s.l s.st s.nx s.mr w) (hi : IV s) {er : Int} {e : Ending} {w' : World} (k : e = .returned (.int .i64 er) ∧ Below w.heap.size w w') : PartIs B g v (s, er) w e w' :=
  ⟨k.1, v, h.below k.2, hi, (Fr.refl g v w).below k.2, Nw.refl v w⟩
theorem pappC (h : PS B g v s.l s.st s.nx s.mr w) (hi : IV s) (hl : s.l.length ≤ 60000) (A : Option Addr) (c : Nat) (xs : List PB.S45) (hx : Kd.C PB.k45 w A xs.length xs) (hc : xs.length ≤ c) (hlx : xs.length ≤ 60000) (hs : Sep A xs.length g v) :
    Calls Try.prog 9 #[.pointer (some ⟨g, 0, none⟩), .slice A xs.length c] w (PartIs B g v (appS s xs) w) := by
  cases hm : mayAll xs with
  | false =>
    rw [appS_bad hm]
    exact (append_bad B g v s.l s.st s.nx s.mr A c xs w h hx hc hlx (by rw [bad_iff, hm]; rfl)).mono (fun e w' k => same_part h hi k)
  | true =>
    cases hr : riseB xs s.nx with
    | false =>
      rw [appS_low hm hr]
      exact (append_low B g v s.l s.st s.nx s.mr A c xs w h hx hc hlx (by rw [bad_iff, hm]; rfl) hr).mono (fun e w' k => same_part h hi k)
    | true =>
      rw [appS_ok hm hr]
      refine (append_ok B g v s.l s.st s.nx s.mr A c xs w h hx hc hlx hl hs (by rw [bad_iff, hm]; rfl) hr).mono ?_
      rintro e w' ⟨rfl, v', h1, h2, h3⟩
      exact ⟨rfl, v', h1, hi.app hm hr, h2, Nw.of h3⟩
theorem ptrimC (h : PS B g v s.l s.st s.nx s.mr w) (hi : IV s) (hl : s.l.length ≤ 60000) (a : Int) :
    Calls Try.prog 22 #[.pointer (some ⟨g, 0, none⟩), .int .i64 a] w (PartIs B g v (trimS s a) w) := by
  unfold trimS
  by_cases hb : a < s.st ∨ s.nx < a
  · rw [if_pos hb]
    exact (trim_off h a hb).mono (fun e w' k => same_part h hi k)
  · rw [if_neg hb]
    refine (trim_ok h a (fun h1 => hb (Or.inl h1)) (fun h1 => hb (Or.inr h1)) hl hi.ris).mono ?_
    rintro e w' ⟨rfl, m, hm, v', h1, h2, h3⟩
    rw [cut_from_eq hm] at h1
    exact ⟨rfl, v', h1, hi.trim a, h2, h3⟩
theorem prepC (h : PS B g v s.l s.st s.nx s.mr w) (hi : IV s) (A : Option Addr) (c : Nat) (xs : List PB.S45) (hx : Kd.C PB.k45 w A xs.length xs) (hc : xs.length ≤ c) (hlx : xs.length ≤ 60000) :
    Calls Try.prog 23 #[.pointer (some ⟨g, 0, none⟩), .slice A xs.length c] w (PartIs B g v (repS s xs) w) := by
  cases hm : mayAll xs with
  | false =>
    rw [repS_bad hm]
    exact (replace_bad B g v s.l s.st s.nx s.mr A c xs w h hx hc hlx (by rw [bad_iff, hm]; rfl)).mono (fun e w' k => same_part h hi k)
  | true =>
    have hb : decide (∃ x ∈ xs, PuB.mayB x = false) = false := by rw [bad_iff, hm]; rfl
    cases hr : riseB xs s.st with
    | false =>
      rw [repS_low hm hr]
      exact (replace_low B g v s.l s.st s.nx s.mr A c xs w h hx hc hlx hb hr).mono (fun e w' k => same_part h hi k)
    | true =>
      by_cases h0 : xs.length = 0
      · rw [repS_ok hm hr (Or.inl h0)]
        refine (replace_none B g v s.l s.st s.nx s.mr A c xs w h hx hc hlx hb hr h0).mono ?_
        rintro e w' ⟨rfl, v', h1, h2, h3⟩
        exact ⟨rfl, v', h1, IV.rep hm hr (Or.inl h0), h2, h3⟩
      · by_cases hx2 : (PB.rd_T45 xs ((xs.length - 1 : Nat) : Int)).f0 < s.nx
        · have hq : xs.length = 0 ∨ 0 < xs.length ∧ (PB.rd_T45 xs ((xs.length - 1 : Nat) : Int)).f0 < s.nx := Or.inr ⟨by omega, hx2⟩
          rw [repS_ok hm hr hq]
          refine (replace_some B g v s.l s.st s.nx s.mr A c xs w h hx hc hlx hb hr (by omega) hx2).mono ?_
          rintro e w' ⟨rfl, v', h1, h2, h3⟩
          exact ⟨rfl, v', h1, IV.rep hm hr hq, h2, h3⟩
        · rw [repS_over hm (by omega) (by omega)]
          exact (replace_over B g v s.l s.st s.nx s.mr A c xs w h hx hc hlx hb hr (by omega) (by omega)).mono (fun e w' k => same_part h hi k)
theorem psetC (h : PS B g v s.l s.st s.nx s.mr w) (hi : IV s) (a b : Int) :
    Calls Try.prog 24 #[.pointer (some ⟨g, 0, none⟩), .int .i64 a, .int .i64 b] w (PartIs B g v (setS s a b) w) := by
  unfold setS
  by_cases h0 : 0 < s.l.length ∨ s.nx ≠ 0
  · rw [if_pos h0]
    exact (set_state h a b h0).mono (fun e w' k => same_part h hi k)
  · rw [if_neg h0]
    have e1 : s.l = [] := List.eq_nil_of_length_eq_zero (by omega)
    have e2 : s.nx = 0 := by omega
    have h' := h
    rw [e1, e2] at h'
    by_cases h1 : a < 0 ∨ a > b ∨ b > 1048577
    · rw [if_pos h1]
      exact (set_arg h' a b h1).mono (fun e w' k => same_part h hi k)
    · rw [if_neg h1]
      refine (set_ok h' a b (by omega) (by omega) (by omega)).mono ?_
      rintro e w' ⟨rfl, k1, k2⟩
      exact ⟨rfl, v, k1, ⟨(by intro x hx; cases hx), (by intro x y _ hy; simp at hy), (by intro x hx; cases hx)⟩, k2, Nw.refl v w⟩
end
/-- What Fetch comes to, by the document. -/
def fetS (s : DSt) (a most : Int) : List PB.S45 × Int × Int :=
  if a < s.st ∨ s.mr < a then ([], 0, 34) else if most < 1 then ([], a, 0) else ((fetL a most s.mr s.l [] s.mr).1, (fetL a most s.mr s.l [] s.mr).2, 0)
theorem fetS_ev (s : DSt) (a most : Int) (hl : s.l.length ≤ 60000) : Ev (fun q => PB.weighlockref19_Part_Fetch.f q s.l s.st s.nx s.mr a most) (fetS s a most) := by
  unfold PB.weighlockref19_Part_Fetch.f fetS
  have key : ¬ a < s.st → ¬ s.mr < a → Ev (fun q => PB.weighlockref19_Part_Fetch.j0 q a most (decide (a > s.mr)) s.l s.st s.nx s.mr) (if most < 1 then ([], a, 0) else ((fetL a most s.mr s.l [] s.mr).1, (fetL a most s.mr s.l [] s.mr).2, 0)) := fun h1 h2 => by
    refine Ev.step (fun q => PB.weighlockref19_Part_Fetch.j0.eq_2 ..) (Ev.neg (by rw [decide_eq_true_iff]; omega) ?_)
    by_cases h3 : most < 1
    · rw [if_pos h3]; exact Ev.pos h3 (Ev.cst rfl)
    · rw [if_neg h3]
      refine Ev.neg h3 ?_
      have := fetL_ev s.l a most s.st s.nx s.mr 0 hl s.l.length 0 [] s.mr (by omega) (by simp)
      exact this
  by_cases h1 : a < s.st
  · rw [if_pos (Or.inl h1)]
    exact Ev.pos h1 (Ev.step (fun q => PB.weighlockref19_Part_Fetch.j0.eq_2 ..) (Ev.pos rfl (Ev.cst rfl)))
  · refine Ev.neg h1 ?_
    by_cases h2 : s.mr < a
    · rw [if_pos (Or.inr h2)]
      exact Ev.step (fun q => PB.weighlockref19_Part_Fetch.j0.eq_2 ..) (Ev.pos (decide_eq_true h2) (Ev.cst rfl))
    · rw [if_neg (fun h => h.elim h1 h2)]
      exact key h1 h2
theorem dfetchC {A : Option Addr} {c : Nat} {s : DSt} {w : World} (hC : Kd.C PB.k45 w A s.l.length s.l) (hc : s.l.length ≤ c) (hl : s.l.length ≤ 60000) (a most : Int) :
    Calls Try.prog 30 #[.agg #[.slice A s.l.length c, .int .i64 s.st, .int .i64 s.nx, .int .i64 s.mr], .int .i64 a, .int .i64 most] w fun e w' => ∃ u : Value, e = .returned (.agg #[u, .int .i64 (fetS s a most).2.1, .int .i64 (fetS s a most).2.2]) ∧ Kd.R PB.k45 45 w' w.heap.size (fun _ => True) u (fetS s a most).1 ∧ Below w.heap.size w w' := by
  obtain ⟨k, hk⟩ := Ev.rounds (fetS_ev s a most hl)
  exact PB.weighlockref19_Part_Fetch.calls k A c s.l s.st s.nx s.mr a most _ _ _ w hC hc hk
/-- What the program tells at a Fetch is what the document tells. -/
theorem pfetchC {B g : Nat} {v : Value} {s : DSt} {w : World} (h : PS B g v s.l s.st s.nx s.mr w) (hi : IV s) (hl : s.l.length ≤ 60000) (a most : Int) :
    Calls Try.prog 21 #[.pointer (some ⟨g, 0, none⟩), .int .i64 a, .int .i64 most] w fun e w' => ∃ u : Value, e = .returned (.tuple #[u, .int .i64 (fetS s a most).2.1, .int .i64 (fetS s a most).2.2]) ∧ Kd.R PB.k45 45 w' w.heap.size (fun _ => True) u (fetS s a most).1 ∧ Below w.heap.size w w' := by
  unfold fetS
  by_cases h1 : a < s.st ∨ s.mr < a
  · rw [if_pos h1]
    exact (fetch_off h a most h1).mono (fun e w' k => ⟨_, k.1, Kd.R_nil _ _ _ _ _, k.2⟩)
  · rw [if_neg h1]
    have h2 : ¬ a < s.st := fun q => h1 (Or.inl q)
    have h3 : ¬ s.mr < a := fun q => h1 (Or.inr q)
    by_cases h4 : most < 1
    · rw [if_pos h4]
      exact (fetch_none h a most h2 h3 h4).mono (fun e w' k => ⟨_, k.1, Kd.R_nil _ _ _ _ _, k.2⟩)
    · rw [if_neg h4]
      obtain ⟨N, hN⟩ : ∃ N : Nat, most = (N : Int) ∧ 1 ≤ N ∧ N < 16 ∨ most = 16 ∧ N = 16 ∨ 16 < most ∧ N = 16 := by
        by_cases q : most < 16
        · exact ⟨most.toNat, Or.inl ⟨by omega, by omega, by omega⟩⟩
        · by_cases q2 : most = 16
          · exact ⟨16, Or.inr (Or.inl ⟨q2, rfl⟩)⟩
          · exact ⟨16, Or.inr (Or.inr ⟨by omega, rfl⟩)⟩
      refine (fetch_ok h a most N h2 h3 hN hl hi.ris).mono ?_
      rintro e w' ⟨m, k, u, on, q1, q2, q3, q4, q5, q6, rfl, q7, q8⟩
      have := fetL_eq hi.ris hN q1 q2 q3 q4 q5
      rw [this]
      exact ⟨u, by rw [q6], q7, q8⟩
theorem szR_enc (x : PB.S45) (h : PuB.mayB x = true) : PuB.szR x = ((Own.sB (Own.recL x.f0.toNat x.f1.toNat x.f5.toNat x.f6.toNat x.f7.toNat x.f4 x.f2 x.f3)).size : Int) := by
  unfold PuB.szR
  rw [if_pos h, Own.sB_size]
theorem dbytes_ev (l : List PB.S45) (hl : l.length ≤ 60000) (hm : ∀ x ∈ l, PuB.mayB x = true) : ∀ (n k : Nat) (t : Int), k + n = l.length → Ev (fun q => PB.weighlockref19_Part_Bytes.l0 q t l (l.length : Int) (k : Int)) (sumS (l.drop k) t) := by
  intro n
  induction n with
  | zero =>
    intro k t h
    rw [List.drop_of_length_le (by omega)]
    exact Ev.step (fun q => PB.weighlockref19_Part_Bytes.l0.eq_2 ..) (Ev.neg (by omega) (Ev.cst rfl))
  | succ n ih =>
    intro k t h
    have hk : k < l.length := by omega
    have hw : wrap64 ((k : Int) + 1) = ((k + 1 : Nat) : Int) := by unfold wrap64; omega
    refine Ev.step (fun q => PB.weighlockref19_Part_Bytes.l0.eq_2 ..) (Ev.pos (by omega) (Ev.pos (by omega) (Ev.pos (by omega) ?_)))
    rw [rd_get l k hk, List.drop_eq_getElem_cons hk, hw]
    have hmx := hm l[k] (List.getElem_mem _)
    refine Ev.bind (Pu.refEnc_ev _ _ _ _ _ _ _ _ hmx) ?_
    have := ih (k + 1) (wrap64 (t + PuB.szR l[k])) (by omega)
    rw [szR_enc _ hmx] at this
    have e : sumS (l[k] :: l.drop (k + 1)) t = sumS (l.drop (k + 1)) (wrap64 (t + PuB.szR l[k])) := rfl
    rw [e, szR_enc _ hmx]
    exact this
theorem dbytesC {A : Option Addr} {c : Nat} {s : DSt} {w : World} (hC : Kd.C PB.k45 w A s.l.length s.l) (hc : s.l.length ≤ c) (hl : s.l.length ≤ 60000) (hm : ∀ x ∈ s.l, PuB.mayB x = true) :
    Calls Try.prog 35 #[.agg #[.slice A s.l.length c, .int .i64 s.st, .int .i64 s.nx, .int .i64 s.mr]] w fun e w' => e = .returned (.int .i64 (sumS s.l 0)) ∧ Below w.heap.size w w' := by
  obtain ⟨k, hk⟩ := Ev.rounds (dbytes_ev s.l hl hm s.l.length 0 0 (by omega))
  exact PB.weighlockref19_Part_Bytes.calls k A c s.l s.st s.nx s.mr _ w hC hc (by unfold PB.weighlockref19_Part_Bytes.f; exact hk)
end Go.Proofs.Ytmkipdleggkkkaa.Own

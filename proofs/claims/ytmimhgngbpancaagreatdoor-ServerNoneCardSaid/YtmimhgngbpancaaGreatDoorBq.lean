import Derived.Test.YtmimhgngbpancaaGreatDoorBm
/- Slices that are appended to behind, and taken from ahead ('q = q[1:]'): a row that begins anywhere in a block of one's own. -/
set_option linter.unusedSimpArgs false
namespace Go.Proofs.YtmimhgngbpancaaGreatDoor
open Go.RowKit

/-- The slice v of n elements (type E, sz cells each) holds the cells xs; its block is a row without frozen cells. -/
def Que (w : World) (E : TypeId) (sz : Nat) (v : Value) (n : Nat) (xs : List Value) : Prop :=
  xs.length = n * sz ∧ ((v = .slice none 0 0 ∧ n = 0) ∨ ∃ g off cap cs, v = .slice (some ⟨g, off, none⟩) n cap ∧ n ≤ cap ∧ Blk w g cs E ∧ off + cap * sz ≤ cs.size ∧ ∀ j u, xs[j]? = some u → cs[off + j]? = some u)
/-- The block that a slice leads to. -/
def qb : Value → List Nat
  | .slice (some a) _ _ => [a.block]
  | _ => []

theorem Que.nil (w : World) (E : TypeId) (sz : Nat) : Que w E sz (.slice none 0 0) 0 [] := ⟨by simp, .inl ⟨rfl, rfl⟩⟩
theorem Que.kept {w w' : World} {E : TypeId} {sz : Nat} {v : Value} {n : Nat} {xs : List Value} (h : Que w E sz v n xs) {S : List Nat} (hc : Ch S w w') (hs : ∀ k, k ∈ qb v → k ∉ S) : Que w' E sz v n xs := by
  obtain ⟨h1, h2⟩ := h
  refine ⟨h1, ?_⟩
  rcases h2 with h2 | ⟨g, off, cap, cs, rfl, hn, hb, hsz, hx⟩
  · exact .inl h2
  · exact .inr ⟨g, off, cap, cs, rfl, hn, hc.blk hb (hs g (by simp [qb])), hsz, hx⟩
theorem Que.alloc {w : World} {E : TypeId} {sz : Nat} {v : Value} {n : Nat} {xs : List Value} (h : Que w E sz v n xs) (o : Obj) : Que (w.alloc o) E sz v n xs := h.kept ((Ch.refl [] w).alloc o) (fun _ _ => by simp)
/-- A value in a new block of its own: what is appended. -/
theorem one_new (w : World) (v : Value) (t : TypeId) : ∀ j u, [v][j]? = some u → (w.alloc (.cells #[v] t)).cell? ((⟨w.heap.size, 0, none⟩ : Addr).add j) = some u := by
  intro j u hj
  cases j with
  | zero => simp at hj; subst hj; exact (Blk.new w #[v] t).cell rfl
  | succ j => simp at hj
theorem Que.lt {w : World} {E : TypeId} {sz : Nat} {v : Value} {n : Nat} {xs : List Value} (h : Que w E sz v n xs) : ∀ k, k ∈ qb v → k < w.heap.size := by
  obtain ⟨_, h2⟩ := h
  rcases h2 with ⟨rfl, _⟩ | ⟨g, off, cap, cs, rfl, hn, hb, hsz, hx⟩
  · intro k hk; simp [qb] at hk
  · intro k hk; simp [qb] at hk; subst hk; exact hb.lt
theorem Que.shape {w : World} {E : TypeId} {sz : Nat} {v : Value} {n : Nat} {xs : List Value} (h : Que w E sz v n xs) : ∃ a cap, v = .slice a n cap := by
  obtain ⟨_, h2⟩ := h
  rcases h2 with ⟨rfl, rfl⟩ | ⟨g, off, cap, cs, rfl, hn, hb, hsz, hx⟩
  · exact ⟨_, _, rfl⟩
  · exact ⟨_, _, rfl⟩
/-- One that has elements leads to a block. -/
theorem Que.some {w : World} {E : TypeId} {sz : Nat} {v : Value} {n : Nat} {xs : List Value} (h : Que w E sz v n xs) (hn : 0 < n) :
    ∃ g off cap, v = .slice (some ⟨g, off, none⟩) n cap ∧ n ≤ cap ∧ (∀ j u, xs[j]? = some u → w.cell? ⟨g, off + j, none⟩ = some u) ∧ ∀ j, w.frozen? ⟨g, j, none⟩ = false := by
  obtain ⟨_, h2⟩ := h
  rcases h2 with ⟨rfl, rfl⟩ | ⟨g, off, cap, cs, rfl, hn', hb, hsz, hx⟩
  · omega
  · exact ⟨g, off, cap, rfl, hn', fun j u hj => hb.cell (hx j u hj), fun j => hb.free j⟩
/-- A block of another make is not its own. -/
theorem Que.ne_blk {w : World} {E : TypeId} {sz : Nat} {v : Value} {n : Nat} {xs : List Value} (h : Que w E sz v n xs) {b : Nat} {cs : Array Value} {t : TypeId} (hb : Blk w b cs t) (ht : t ≠ E) : b ∉ qb v := by
  obtain ⟨_, h2⟩ := h
  rcases h2 with ⟨rfl, _⟩ | ⟨g, off, cap, cs', rfl, hn', hb', hsz, hx⟩
  · simp [qb]
  · simp [qb]; exact hb.ne_type hb' ht
theorem Que.ne_map {w : World} {E : TypeId} {sz : Nat} {v : Value} {n : Nat} {xs : List Value} (h : Que w E sz v n xs) {r : Nat} {es : Array MapEntry} {c : Nat} (hm : IsMap w r es c) : r ∉ qb v := by
  obtain ⟨_, h2⟩ := h
  rcases h2 with ⟨rfl, _⟩ | ⟨g, off, cap, cs', rfl, hn', hb', hsz, hx⟩
  · simp [qb]
  · simp [qb]; exact Ne.symm (hb'.ne_map hm)

theorem setCells_ch (b : Nat) : ∀ (vs : List Value) (o : Nat) (w : World), Ch [b] w (w.setCells b o vs)
  | [], _, w => Ch.refl _ _
  | v :: r, o, w => ((Ch.refl [b] w).setCell (.inl (by simp)) v).trans (setCells_ch b r (o + 1) _)
theorem setCells_blk (b : Nat) : ∀ (vs : List Value) (o : Nat) (w : World) (cs : Array Value) (t : TypeId), Blk w b cs t → ∃ cs', Blk (w.setCells b o vs) b cs' t ∧ cs'.size = cs.size ∧ (∀ j, j < o ∨ o + vs.length ≤ j → cs'[j]? = cs[j]?) ∧ (∀ j u, o + vs.length ≤ cs.size → vs[j]? = some u → cs'[o + j]? = some u)
  | [], o, w, cs, t, h => ⟨cs, h, rfl, fun _ _ => rfl, fun j u _ hj => by simp at hj⟩
  | v :: r, o, w, cs, t, h => by
    obtain ⟨cs', h1, h2, h3, h4⟩ := setCells_blk b r (o + 1) (w.setCell ⟨b, o, none⟩ v) _ t (h.set o v)
    refine ⟨cs', h1, by simpa using h2, fun j hj => ?_, fun j u hs hj => ?_⟩
    · rw [h3 j (by simp at hj; omega), Array.getElem?_setIfInBounds, if_neg (by simp at hj; omega)]
    · simp at hs
      cases j with
      | zero =>
        rw [Nat.add_zero, h3 o (by omega)]
        simp at hj
        subst hj
        simp [Array.getElem?_setIfInBounds]; omega
      | succ j =>
        have := h4 j u (by simp; omega) (by simpa using hj)
        rwa [show o + 1 + j = o + (j + 1) by omega] at this

/-- append behind such a slice. -/
theorem run_append_que {P : Program} (w : World) (t ty E : TypeId) (i : TypeInfo) (z : Value) (sz bytes : Nat) (ht : P.underlying t = some (.slice E)) (hi : P.info? E = some i) (hz : i.zero = some z)
    (hsize : i.size = sz) (hby : i.bytes = bytes) (hzs : z.cells.size = sz) (hsz : 0 < sz)
    (v : Value) (n : Nat) (xs : List Value) (hq : Que w E sz v n xs)
    (a : Addr) (m c : Nat) (news : List Value) (hl : news.length = m * sz) (hnews : ∀ j u, news[j]? = some u → w.cell? (a.add j) = some u) (h1 : ∀ u ∈ news, u.oneCell' = true)
    (h63 : n + m ≤ maxLen) (hbytes : (n + m) * bytes ≤ 140737488355328) :
    ∃ v' w', (Builtin.append_ #[t, t] ty #[v, .slice (some a) m c]).run P w = .ok v' w' ∧ Que w' E sz v' (n + m) (xs ++ news) ∧ Ch (qb v) w w' ∧ ∀ k, k ∈ qb v' → k ∈ qb v ∨ w.heap.size ≤ k := by
  have grown : ∀ {v' w'}, w'.ownsRow w.heap.size E sz v' (n + m) (xs ++ news) → w.grownBy w' none → Que w' E sz v' (n + m) (xs ++ news) ∧ Ch (qb v) w w' ∧ ∀ k, k ∈ qb v' → k ∈ qb v ∨ w.heap.size ≤ k := by
    intro v' w' ho hg
    obtain ⟨o1, o2⟩ := ho
    refine ⟨⟨o1, ?_⟩, ⟨hg.os, hg.tape, hg.output, hg.size, fun k hk _ => hg.block k hk (by simp)⟩, ?_⟩
    · rcases o2 with ⟨rfl, h0⟩ | ⟨g, cap, cur, rfl, hb, hh, hnc, hcm, hcs, htk⟩
      · exact .inl ⟨rfl, h0⟩
      · refine .inr ⟨g, 0, cap, cur, rfl, hnc, hh, by omega, fun j u hj => ?_⟩
        rw [← htk, List.getElem?_take] at hj
        split at hj
        · simpa using hj
        · cases hj
    · rcases o2 with ⟨rfl, h0⟩ | ⟨g, cap, cur, rfl, hb, _⟩
      · intro k hk; simp [qb] at hk
      · intro k hk; simp [qb] at hk; subst hk; exact .inr hb
  have hq0 := hq
  obtain ⟨q1, q2⟩ := hq
  rcases q2 with ⟨rfl, rfl⟩ | ⟨g, off, cap, cs, rfl, hn', hb', hcs, hx⟩
  · obtain rfl : xs = [] := List.eq_nil_of_length_eq_zero (by simpa using q1)
    obtain ⟨v', w', hrun, r1, r2, _⟩ := run_append_own (P := P) w w.heap.size t ty E i z sz bytes ht hi hz hsize hby hzs hsz (.slice none 0 0) 0 [] (World.ownsRow_nil w _ E sz) a m c news hl hnews h1 h63 hbytes (Nat.le_refl _)
    exact ⟨v', w', hrun, grown r1 r2⟩
  · by_cases hr : n + m ≤ cap
    · subst hsize
      have hle : n * i.size + m * i.size ≤ cap * i.size := by rw [← Nat.add_mul]; exact Nat.mul_le_mul_right _ hr
      have hin : ∀ j, j < news.length → off + n * i.size + j < cs.size := fun j hj => by rw [hl] at hj; omega
      have hrun := run_append_room_cells (P := P) w t ty E i ht hi g off n cap a m c news hl hnews h1 hr (fun j hj => by rw [hb'.cell (Array.getElem?_eq_getElem (hin j hj))]; rfl) (fun j _ => hb'.free _)
      obtain ⟨cs', k1, k2, k3, k4⟩ := setCells_blk g news (off + n * i.size) w cs E hb'
      refine ⟨_, _, hrun, ⟨by rw [List.length_append, q1, hl, Nat.add_mul], .inr ⟨g, off, cap, cs', rfl, hr, k1, by omega, fun j u hj => ?_⟩⟩, setCells_ch g news _ w, fun k hk => .inl hk⟩
      by_cases hj' : j < xs.length
      · rw [List.getElem?_append_left hj'] at hj
        rw [k3 _ (.inl (by omega))]
        exact hx j u hj
      · rw [List.getElem?_append_right (by omega)] at hj
        have := k4 (j - xs.length) u (by omega) hj
        rwa [show off + n * i.size + (j - xs.length) = off + j by omega] at this
    · obtain ⟨v', w', hrun, r1, r2⟩ := run_append_arg_grows (P := P) w t ty E i z sz bytes ht hi hz hsize hby hzs hsz ⟨g, off, none⟩ n cap xs q1 (fun j u hj => by rw [Addr.add_lit]; exact hb'.cell (hx j u hj)) a m c news hl hnews (by omega) h63 hbytes
      exact ⟨v', w', hrun, grown r1 r2⟩

/-- The same, for the walk. -/
theorem wpList_append_que {P : Program} (w : World) {ops : Array Oper} {rest : List Oper} {o : Oper} {a : Act} {Q : Exit → Act → World → Prop}
    (hg : o.guard = none) (s x : Operand) (t : TypeId) (hop : o.op = Op.call { callee := Callee.builtin Builtin.append, args := #[s, x], argTypes := #[t, t] })
    (E : TypeId) (i : TypeInfo) (z : Value) (sz bytes : Nat) (h1 : P.underlying t = some (.slice E)) (h2 : P.info? E = some i) (h3 : i.zero = some z) (h4 : i.size = sz) (h5 : i.bytes = bytes) (h6 : z.cells.size = sz) (h7 : 0 < sz)
    (v : Value) (n : Nat) (olds : List Value) (hs : a.eval s = v) (hq : Que w E sz v n olds)
    (ad : Addr) (m c : Nat) (news : List Value) (hx : a.eval x = .slice (some ad) m c) (hn : news.length = m * sz) (hc : ∀ j u, news[j]? = some u → w.cell? (ad.add j) = some u) (h1c : ∀ u ∈ news, u.oneCell' = true)
    (b1 : n + m ≤ maxLen) (b2 : (n + m) * bytes ≤ 140737488355328)
    (hK : ∀ v' w', Que w' E sz v' (n + m) (olds ++ news) → Ch (qb v) w w' → (∀ k, k ∈ qb v' → k ∈ qb v ∨ w.heap.size ≤ k) → wpList P ops Q rest (a.put o.dst v') w') :
    wpList P ops Q (o :: rest) a w := by
  refine wpList_plain hg fun K hK' => ?_
  obtain ⟨v', w', hrun, r1, r2, r3⟩ := run_append_que (P := P) w t o.type E i z sz bytes h1 h2 h3 h4 h5 h6 h7 v n olds hq ad m c news hn hc h1c b1 b2
  unfold Oper.wp
  simp [execOp, hop, resolve, invoke, builtin, hs, hx, hrun, Result.andThen]
  exact hK' _ _ (hK v' w' r1 r2 r3)
end Go.Proofs.YtmimhgngbpancaaGreatDoor

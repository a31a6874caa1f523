/- How Go values lie in memory, and an evaluator of code with its soundness (part 3 of 4). Conditions: those that stand in each theorem; nothing is assumed of any program. -/
import Derived.Test.YtnnljnfnomfgkaaFpB
import Derived.Maps.AppendAt

/- The operation store, into an element. Conditions: none. -/
namespace Go.FP
open Go.RowKit
set_option linter.unusedVariables false
set_option linter.unusedSimpArgs false

theorem updLeaf_rep {S : Nat → Prop} {w : World} {l : Leaf} {v : Value} {bl : List Nat} (hv : Rep S w l.t .dp [v] l.x bl) : ∀ (t : Ty) {c : List Value} {x y : t.D} {b : List Nat} {n : Nat}, Rep S w t .dp c x b → updLeafD t x n l = some y → n < c.length ∧ ∃ p q r, b = p ++ q ++ r ∧ Rep S w t .dp (c.set n v) y (p ++ bl ++ r)
  | .unit, c, x, y, b, n, h, hu => by simp [updLeafD] at hu
  | .int k, c, x, y, b, n, h, hu => by
    simp only [updLeafD] at hu
    split at hu
    · rename_i hn
      subst hn
      rw [Leaf.as_eq hu] at hv
      have hc := h.1
      have hb := h.2
      subst hc; subst hb
      exact ⟨by simp, [], [], [], rfl, by simpa using hv⟩
    · simp at hu
  | .bool, c, x, y, b, n, h, hu => by
    simp only [updLeafD] at hu
    split at hu
    · rename_i hn
      subst hn
      rw [Leaf.as_eq hu] at hv
      have hc := h.1
      have hb := h.2
      subst hc; subst hb
      exact ⟨by simp, [], [], [], rfl, by simpa using hv⟩
    · simp at hu
  | .str, c, x, y, b, n, h, hu => by
    simp only [updLeafD] at hu
    split at hu
    · rename_i hn
      subst hn
      rw [Leaf.as_eq hu] at hv
      have hc := h.1
      have hb := h.2
      subst hc; subst hb
      exact ⟨by simp, [], [], [], rfl, by simpa using hv⟩
    · simp at hu
  | .slice e t, c, x, y, b, n, h, hu => by
    simp only [updLeafD] at hu
    split at hu
    · rename_i hn
      subst hn
      rw [Leaf.as_eq hu] at hv
      obtain ⟨v0, xs, b0, b1, hc, _⟩ := h
      subst hc
      exact ⟨by simp, [], b, [], by simp, by simpa using hv⟩
    · simp at hu
  | .pair a b', c, x, y, b, n, ⟨c1, c2, b1, b2, e1, e2, h1, h2⟩, hu => by
    have hl1 := h1.len
    simp only [updLeafD] at hu
    split at hu
    · rename_i hn
      cases hya : updLeafD a x.1 n l with
      | none => rw [hya] at hu; simp at hu
      | some y1 =>
        rw [hya] at hu
        simp only [Option.some.injEq] at hu
        subst hu
        obtain ⟨k0, p, q, r, k1, k2⟩ := updLeaf_rep hv a h1 hya
        subst e1
        exact ⟨by rw [List.length_append]; omega, p, q, r ++ b2, by rw [e2, k1]; simp only [List.append_assoc], c1.set n v, c2, p ++ bl ++ r, b2, by rw [List.set_append_left _ _ k0], by simp only [List.append_assoc], k2, h2⟩
    · rename_i hn
      cases hyb : updLeafD b' x.2 (n - a.sz) l with
      | none => rw [hyb] at hu; simp at hu
      | some y1 =>
        rw [hyb] at hu
        simp only [Option.some.injEq] at hu
        subst hu
        obtain ⟨k0, p, q, r, k1, k2⟩ := updLeaf_rep hv b' h2 hyb
        subst e1
        exact ⟨by rw [List.length_append]; omega, b1 ++ p, q, r, by rw [e2, k1]; simp only [List.append_assoc], c1, c2.set (n - a.sz) v, b1, p ++ bl ++ r, by rw [List.set_append_right _ _ (by omega), hl1], by simp only [List.append_assoc], h1, k2⟩

theorem nodup_swap {X Q Y L : List Nat} (h : (X ++ (Q ++ Y)).Nodup) (hL : L.Nodup) (hd : ∀ b ∈ L, ∀ b' ∈ X ++ Y, b ≠ b') : (X ++ (L ++ Y)).Nodup := by
  obtain ⟨h1, h2, h3⟩ := List.nodup_append.1 h
  obtain ⟨_, h5, h6⟩ := List.nodup_append.1 h2
  refine List.nodup_append.2 ⟨h1, List.nodup_append.2 ⟨hL, h5, fun a ha b hb => hd a ha b (List.mem_append_right _ hb)⟩, fun a ha b hb e => ?_⟩
  rcases List.mem_append.1 hb with hb | hb
  · exact hd b hb a (List.mem_append_left _ ha) e.symm
  · exact h3 a ha b (List.mem_append_right _ hb) e

/-! ### several leaves -/
def setCs : List Value → Nat → List Value → List Value
  | c, _, [] => c
  | c, n, u :: us => setCs (c.set n u) (n + 1) us
theorem setCs_eq : ∀ (us c : List Value) (n : Nat), n + us.length ≤ c.length → setCs c n us = c.take n ++ us ++ c.drop (n + us.length)
  | [], c, n, h => by simp [setCs]
  | u :: us, c, n, h => by
    simp only [List.length_cons] at h
    rw [setCs, setCs_eq us _ _ (by rw [List.length_set]; omega)]
    rw [List.take_set, List.drop_set, if_pos (by omega)]
    simp only [List.length_cons]
    rw [show (c.take (n + 1)).set n u = c.take n ++ [u] by
      rw [List.take_succ_eq_append_getElem (by omega), List.set_append_right _ _ (by simp; omega)]
      simp [List.length_take, Nat.min_eq_left (show n ≤ c.length by omega)]]
    simp only [List.append_assoc, List.cons_append, List.nil_append]
    rw [show n + 1 + us.length = n + (us.length + 1) by omega]
theorem setCs_length : ∀ (us c : List Value) (n : Nat), (setCs c n us).length = c.length
  | [], c, n => rfl
  | u :: us, c, n => by rw [setCs, setCs_length us, List.length_set]

theorem updLeaves_rep {S : Nat → Prop} {w : World} (t : Ty) : ∀ (ls : List Leaf) (us : List Value) (F : Nat → List Nat) {c : List Value} {x y : t.D} {b : List Nat} {n : Nat},
    ls.length = us.length → (∀ l lf u, ls[l]? = some lf → us[l]? = some u → Rep S w lf.t .dp [u] lf.x (F l)) → Rep S w t .dp c x b → updLeavesD t x n ls = some y →
    (ls ≠ [] → n + ls.length ≤ c.length) ∧ ∃ b', Rep S w t .dp (setCs c n us) y b' ∧ (∀ z ∈ b', z ∈ b ∨ ∃ l, l < ls.length ∧ z ∈ F l) ∧
      ∀ X Y, (X ++ b ++ Y).Nodup → (∀ l, l < ls.length → (F l).Nodup) → (∀ l l' z, l < ls.length → l' < ls.length → z ∈ F l → z ∈ F l' → l = l') → (∀ l z, l < ls.length → z ∈ F l → z ∉ X ++ b ++ Y) → (X ++ b' ++ Y).Nodup
  | [], us, F, c, x, y, b, n, hl, hv, h, hu => by
    simp only [updLeavesD, Option.some.injEq] at hu
    subst hu
    have : us = [] := List.length_eq_zero_iff.1 hl.symm
    subst this
    exact ⟨fun h => absurd rfl h, b, h, fun z hz => .inl hz, fun X Y hn _ _ _ => hn⟩
  | lf :: ls, us, F, c, x, y, b, n, hl, hv, h, hu => by
    cases us with
    | nil => simp at hl
    | cons u us =>
      simp only [updLeavesD] at hu
      cases h1 : updLeafD t x n lf with
      | none => rw [h1] at hu; simp at hu
      | some y1 =>
        rw [h1] at hu
        simp only at hu
        obtain ⟨k0, p, q, r, k1, k2⟩ := updLeaf_rep (hv 0 lf u rfl rfl) t h h1
        obtain ⟨m0, b', m1, m2, m3⟩ := updLeaves_rep t ls us (fun l => F (l + 1)) (by simpa using hl) (fun l lf' u' h1 h2 => hv (l + 1) lf' u' (by simpa using h1) (by simpa using h2)) k2 hu
        refine ⟨fun _ => ?_, b', m1, fun z hz => ?_, fun X Y hn h1 h2 h3 => ?_⟩
        · by_cases hls : ls = []
          · subst hls; simp; omega
          · have := m0 hls
            rw [List.length_set] at this
            simp only [List.length_cons]; omega
        · rcases m2 z hz with hz | ⟨l, hlt, hz⟩
          · rw [k1]
            simp only [List.mem_append] at hz ⊢
            rcases hz with (hz | hz) | hz
            · exact .inl (.inl (.inl hz))
            · exact .inr ⟨0, by simp, hz⟩
            · exact .inl (.inr hz)
          · exact .inr ⟨l + 1, by simpa using hlt, hz⟩
        · have hd0 : ∀ z ∈ F 0, z ∉ X ++ b ++ Y := fun z hz => h3 0 z (by simp) hz
          have hn1 : (X ++ (p ++ F 0 ++ r) ++ Y).Nodup := by
            rw [k1] at hn hd0
            have := nodup_swap (X := X ++ p) (Q := q) (Y := r ++ Y) (L := F 0) (by simpa only [List.append_assoc] using hn) (h1 0 (by simp)) (fun z hz z' hz' e => by
              subst e
              apply hd0 z hz
              simp only [List.mem_append] at hz' ⊢
              rcases hz' with (hz' | hz') | (hz' | hz') <;> simp [hz'])
            simpa only [List.append_assoc] using this
          refine m3 X Y hn1 (fun l hlt => h1 (l + 1) (by simpa using hlt)) (fun l l' z hlt hlt' hz hz' => by have := h2 (l + 1) (l' + 1) z (by simpa using hlt) (by simpa using hlt') hz hz'; omega) (fun l z hlt hz hm => ?_)
          have hm' : z ∈ X ++ b ++ Y ∨ z ∈ F 0 := by
            rw [k1]
            simp only [List.mem_append] at hm ⊢
            rcases hm with (hm | (hm | hm) | hm) | hm <;> simp [hm]
          rcases hm' with hm' | hm'
          · exact h3 (l + 1) z (by simpa using hlt) hz hm'
          · have := h2 (l + 1) 0 z (by simpa using hlt) (by simp) hz hm'; omega

theorem set_mid {V : Type} (pre ch post us : List V) (oo : Nat) (h : oo + us.length ≤ ch.length) : pre ++ (ch.take oo ++ us ++ ch.drop (oo + us.length)) ++ post = (pre ++ ch ++ post).take (pre.length + oo) ++ us ++ (pre ++ ch ++ post).drop (pre.length + oo + us.length) := by
  have h1 : (pre ++ ch ++ post).take (pre.length + oo) = pre ++ ch.take oo := by
    rw [List.append_assoc, List.take_append, List.take_of_length_le (by omega), show pre.length + oo - pre.length = oo by omega, List.take_append_of_le_length (by omega)]
  have h2 : (pre ++ ch ++ post).drop (pre.length + oo + us.length) = ch.drop (oo + us.length) ++ post := by
    rw [List.append_assoc, List.drop_append, List.drop_of_length_le (by omega), show pre.length + oo + us.length - pre.length = oo + us.length by omega, List.drop_append_of_le_length (by omega), List.nil_append]
  rw [h1, h2]; simp only [List.append_assoc]
theorem take_mid (C us : List Value) (off N : Nat) (h : off + us.length ≤ N) (hN : N ≤ C.length) : (C.take off ++ us ++ C.drop (off + us.length)).take N = (C.take N).take off ++ us ++ (C.take N).drop (off + us.length) := by
  have hA : (C.take off ++ us).length = off + us.length := by rw [List.length_append, List.length_take]; omega
  rw [List.take_append, hA, List.take_of_length_le (by omega), List.take_take, Nat.min_eq_left (by omega), List.drop_take]

section
variable {P : Program} {o : Oper} {a : Act} {w : World} {R : Type} {K : Env → Option R} {r : R} {next : Act → World → Prop} {Q : Exit → Act → World → Prop} {c : Cx} {d : Nat} {T : Tab} {env : Env}

theorem op_store_eptr (hT : TabOk P T) {t : TypeId} {τ : Ty} {x v : Operand} {env1 : Env} {ls : List Leaf} {q j oo : Nat} {i : Int} {le : List Leaf} {e : TypeId} {te : Ty} {xs : List te.D} {y : te.D} (hop : o.op = .store t x v) (hdst : o.dst = none) (hr : RE c env a.tmps w) (ht : T.ty t = some τ) (hta : takeAs τ env v = some (env1, ls))
    (hx : rd none env1 x = .eptr le (some (q, j, [], i, oo))) (hl : (get env1 q).leaf? j = some ⟨.slice e te, xs, .at_ .dp⟩) (hlm : (!ls.isEmpty && ls.all fun l => !l.t.isAgg && (l.t.flatB || l.m == .at_ .dp)) = true) (hi0 : 0 ≤ i) (hi1 : i < (xs.length : Int)) (hu : updLeavesD te (xs.getD i.toNat te.dflt) oo ls = some y)
    (hK : K (syncPlace q j ⟨.slice e te, xs.set i.toNat y, .at_ .dp⟩ env1) = some r) (hn : Next c a K r env.length next) : o.wp P a w next Q := by
  simp only [Bool.and_eq_true, Bool.not_eq_true', List.isEmpty_eq_false_iff] at hlm
  obtain ⟨hne, hlm⟩ := hlm
  obtain ⟨hti, hty⟩ := takeAs_spec hta
  have hll := typedAs_len hty
  obtain ⟨vs, h⟩ := hr
  obtain ⟨hlen1, h1⟩ := takeIn_rel h (fun r => .inl rfl) hti (Nat.le_refl _) rfl
  have hset := takeIn_settled hti
  have hs1 : ∀ r, Settled (upd noP env.length (.con τ.kind ls) r) := Settled.upd (fun r => .inl rfl) _ (.inr ⟨_, _, rfl, hset⟩)
  let ps := upd noP env.length (.con τ.kind ls)
  let vs1 := upd vs env.length (evT a.tmps v)
  have hql : q < env1.length := leaf_lt hl
  have hqm : q ≠ env.length := by omega
  -- what the relation says of the place and of the address
  have near : ∀ cs bs, Rel c (SS env1 ps a.tmps vs1 w cs bs) → ∃ B n cp, (cs q)[j]? = some (.slice (some ⟨B, 0, none⟩) n cp) ∧ evT a.tmps x = .pointer (some ⟨B, i.toNat * te.sz + oo, none⟩) ∧ Rep (RoS c (SS env1 ps a.tmps vs1 w cs bs)) w (.slice e te) .dp [.slice (some ⟨B, 0, none⟩) n cp] xs (bs q (j + 1)) := by
    intro cs bs hrel
    obtain ⟨cells, hv⟩ := rd_val h1.len hrel none x
    rw [hx] at hv
    obtain ⟨ad, ea, _, _, lf, u, ⟨o1, o2, o3⟩, k⟩ := hv
    obtain ⟨e', t', xs', m', B, n, cp, k1, k2, _, _, k3⟩ := k rfl
    have o1 : (ovl env1 ps q).leaf? j = some lf := o1
    rw [ovl_lt hql, hl] at o1
    simp only [Option.some.injEq] at o1
    rw [← o1] at k1
    simp only [Leaf.mk.injEq, Ty.slice.injEq] at k1
    obtain ⟨⟨rfl, rfl⟩, _, _⟩ := k1
    subst k2
    refine ⟨B, n, cp, o3, by rw [ea, k3], ?_⟩
    have hav := hrel.av q
    have e1 : (SS env1 ps a.tmps vs1 w cs bs).env q = get env1 q := ovl_lt hql
    rw [e1] at hav
    obtain ⟨kk, ls0, hv0⟩ : ∃ k ls, get env1 q = .con k ls := by
      cases hv : get env1 q with
      | con k ls => exact ⟨k, ls, rfl⟩
      | _ => rw [hv] at hl; simp [AV.leaf?] at hl
    rw [hv0] at hav hl
    exact (hav.2.2.2 j _ _ hl o3).rep
  obtain ⟨cs0, bs0, hrel0, _⟩ := h1.rel
  obtain ⟨B, n, cp, c1, c2, c3⟩ := near cs0 bs0 hrel0
  let off := i.toNat * te.sz + oo
  let us := (evT a.tmps v).cells.toList
  -- the leaves that are stored
  have leafv : ∀ cs bs, Rel c (SS env1 ps a.tmps vs1 w cs bs) → ls.length = us.length ∧ ∀ l lf u, ls[l]? = some lf → us[l]? = some u → Rep (RoS c (SS env1 ps a.tmps vs1 w cs bs)) w lf.t .dp [u] lf.x (bs env.length (l + 1)) := by
    intro cs bs hrel
    obtain ⟨m1, m2, m3, m4, m5⟩ := pend_rel h1.len hrel (n := env.length) (by omega) (upd_same _ _ _) (kind_plain τ) hset
    have ev : vs1 env.length = evT a.tmps v := upd_same _ _ _
    rw [ev] at m1
    refine ⟨by rw [m3, m1], fun l lf u hlf hu1 => ?_⟩
    obtain ⟨lv, k1, k2⟩ := m5 l lf u hlf (by rw [m1]; exact hu1)
    have hlm1 := List.all_eq_true.1 hlm lf (List.mem_of_getElem? hlf)
    simp only [Bool.and_eq_true, Bool.or_eq_true] at hlm1
    rcases hlm1.2 with hf | hd
    · obtain ⟨k3, k4⟩ := Rep.flat (S' := RoS c (SS env1 ps a.tmps vs1 w cs bs)) (w' := w) (m' := .dp) hf k2
      rw [k3]; exact k4
    · rw [k1] at hd
      simp only [beq_iff_eq, Mode.at_.injEq] at hd
      subst hd
      exact k2
  obtain ⟨hus, leafv0⟩ := leafv cs0 bs0 hrel0
  have hone : ∀ u ∈ us, u.oneCell' = true := fun u hu => by
    obtain ⟨l, hlu⟩ := List.getElem?_of_mem hu
    have hlt : l < ls.length := by rw [hus]; exact (List.getElem?_eq_some_iff.1 hlu).1
    exact Rep.one (leafv0 l ls[l] u (List.getElem?_eq_getElem hlt) hlu) u (by simp)
  have hi : i.toNat < xs.length := by omega
  have hget : xs.getD i.toNat te.dflt = xs[i.toNat] := by simp [hi]
  rw [hget] at hu
  -- the block
  have block : ∃ cur, w.heap[B]? = some (.cells cur e (0, 0)) ∧ off + us.length ≤ cur.size := by
    obtain ⟨v0, cells, b0, b1, e1, e2, hel, hrow⟩ := c3
    obtain rfl : v0 = .slice (some ⟨B, 0, none⟩) n cp := by simpa using e1.symm
    obtain ⟨pre, ch, post, x0, x1, x2, f1, f2, f3, f4, f5, _⟩ := hel.at_ i.toNat hi
    have f5 : Rep _ w te .dp ch _ x1 := f5
    obtain ⟨k0, _⟩ := updLeaves_rep te ls us (fun l => bs0 env.length (l + 1)) hus leafv0 f5 hu
    rcases hrow.2.2 with ⟨h', _⟩ | ⟨g', cap', cur, h', _, hg, hnc, _, hcs, htk⟩
    · simp at h'
    · simp only [Value.slice.injEq, Option.some.injEq, Addr.mk.injEq, and_true] at h'
      obtain ⟨rfl, rfl, rfl⟩ := h'
      refine ⟨cur, hg, ?_⟩
      have hlen2 : cells.length ≤ cur.size := by
        have : cells.length ≤ cur.toList.length := by rw [← htk, List.length_take]; exact Nat.min_le_right _ _
        simpa using this
      rw [f1] at hlen2
      simp only [List.length_append] at hlen2
      have := k0 hne
      simp only [off]; omega
  obtain ⟨cur, hgB, hfit⟩ := block
  let cur' : Array Value := (cur.toList.take off ++ us ++ cur.toList.drop (off + us.length)).toArray
  let w' := w.setRow B cur'
  have hother : ∀ b, b ≠ B → w'.heap[b]? = w.heap[b]? := fun b hb => setRow_other w B b _ hb
  have hsame : w'.heap[B]? = some (.cells cur' e (0, 0)) := setRow_heap w B _ _ e (0, 0) hgB
  have h2 := h1.sync (m := env.length) (fun r _ => hs1 r) (by omega) hl (by decide) (w' := w') (y := xs.set i.toNat y) (fun cs bs hrel uu huu => by
    obtain ⟨B', n', cp', k1, k2, k3⟩ := near cs bs hrel
    rw [c2] at k2
    have hB : B = B' := by simpa using k2
    subst hB
    obtain ⟨_, hru⟩ := leafv cs bs hrel
    have huu : uu = .slice (some ⟨B, 0, none⟩) n' cp' := by
      have huu : (cs q)[j]? = some uu := huu
      rw [k1] at huu
      exact (Option.some.inj huu).symm
    subst huu
    obtain ⟨v0, cells, b0, b1, e1, e2, hel, hrow⟩ := k3
    obtain rfl : v0 = .slice (some ⟨B, 0, none⟩) n' cp' := by simpa using e1.symm
    obtain ⟨hb0, hown1, hown⟩ := hrow
    obtain ⟨cap', hB0, hnc, hcm, hcs, htk⟩ : ∃ cap', cp' = cap' ∧ n' ≤ cap' ∧ cap' ≤ maxLen ∧ cur.size = cap' * te.sz ∧ cur.toList.take (n' * te.sz) = cells := by
      rcases hown with ⟨h', _⟩ | ⟨g', cap', cur2, h', _, hg, hnc, hcm, hcs, htk⟩
      · simp at h'
      · simp only [Value.slice.injEq, Option.some.injEq, Addr.mk.injEq, and_true] at h'
        obtain ⟨rfl, rfl, rfl⟩ := h'
        rw [hgB] at hg
        simp only [Option.some.injEq, Obj.cells.injEq, and_true] at hg
        subst hg
        exact ⟨_, rfl, hnc, hcm, hcs, htk⟩
    subst hB0
    have hn : n' = xs.length := by
      rcases hown with ⟨h', _⟩ | ⟨g', cap', cur, h', _⟩
      · simp at h'
      · simp only [Value.slice.injEq] at h'; exact h'.2.1
    subst hn
    have hb0 : b0 = [B] := by rw [hb0]; rfl
    subst hb0
    obtain ⟨pre, ch, post, x0, x1, x2, f1, f2, f3, f4, f5, f6⟩ := hel.at_ i.toNat hi
    have f5 : Rep _ w te .dp ch _ x1 := f5
    obtain ⟨k0, b', k4, k5, k6⟩ := updLeaves_rep te ls us (fun l => bs env.length (l + 1)) hus hru f5 hu
    have k0 := k0 hne
    have hel' := f6 (setCs ch oo us) y _ (by rw [setCs_length]; exact f3) k4
    have hcl : cells.length = xs.length * te.sz := hel.len
    have hoff : off + us.length ≤ cells.length := by
      rw [f1]; simp only [List.length_append, off]; omega
    have hcells : pre ++ setCs ch oo us ++ post = cells.take off ++ us ++ cells.drop (off + us.length) := by
      rw [setCs_eq _ _ _ (by omega), f1, set_mid _ _ _ _ _ (by omega), f2]
    rw [hcells] at hel'
    have hBq : B ∈ bs q (j + 1) := by
      have e2 : bs q (j + 1) = [B] ++ b1 := e2
      rw [e2]; simp
    have hsub : ∀ b ∈ b1, b ∈ bs q (j + 1) := fun b hb => by
      have e2 : bs q (j + 1) = [B] ++ b1 := e2
      rw [e2]; exact List.mem_append_right _ hb
    have hnd : ([B] ++ b1).Nodup := by
      have e2 : bs q (j + 1) = [B] ++ b1 := e2
      rw [← e2]; exact hrel.nodup _ _
    rw [f4] at hnd hsub
    have hdj : ∀ l, ∀ b ∈ bs env.length (l + 1), b ∉ bs q (j + 1) := fun l b hb hb' => hqm (hrel.disj _ _ _ _ _ hb' hb).1
    have hmem : ∀ b ∈ x0 ++ b' ++ x2, (∃ l, b ∈ bs env.length (l + 1)) ∨ b ∈ x0 ++ x1 ++ x2 := fun b hb => by
      simp only [List.mem_append] at hb ⊢
      rcases hb with (hb | hb) | hb
      · simp [hb]
      · rcases k5 b hb with hb | ⟨l, _, hb⟩
        · simp [hb]
        · exact .inl ⟨l, hb⟩
      · simp [hb]
    have hndn : ([B] ++ (x0 ++ b' ++ x2)).Nodup := by
      have := k6 ([B] ++ x0) x2 (by simpa only [List.append_assoc] using hnd) (fun l _ => hrel.nodup _ _) (fun l l' z _ _ h1 h2 => by have := (hrel.disj _ _ _ _ _ h1 h2).2; omega) (fun l z _ hz hm => by
        apply hdj l z hz
        simp only [List.mem_append, List.mem_singleton] at hm
        rcases hm with ((hm | hm) | hm) | hm
        · rw [hm]; exact hBq
        · exact hsub z (by simp [hm])
        · exact hsub z (by simp [hm])
        · exact hsub z (by simp [hm]))
      simpa only [List.append_assoc] using this
    have hltB : B < w.heap.size := (hrel.own _ _ _ hBq).2
    have hsz : w'.heap.size = w.heap.size := setRow_size _ _ _
    refine ⟨below_setRow (Below.refl _ _) (hrel.own _ _ _ hBq).1 _, fun b hb hb1 _ => hother b (fun e => hb1 (e ▸ hBq)), [B] ++ (x0 ++ b' ++ x2), fun b hb => ?_, hndn, ?_⟩
    · rw [hsz]
      rcases List.mem_append.1 hb with hb | hb
      · rw [List.mem_singleton.1 hb]; exact ⟨hltB, .inr (.inl hBq)⟩
      · rcases hmem b hb with ⟨l, hb⟩ | hb
        · exact ⟨(hrel.own _ _ _ hb).2, .inr (.inr ⟨_, hb⟩)⟩
        · exact ⟨(hrel.own _ _ _ (hsub b hb)).2, .inr (.inl (hsub b hb))⟩
    · refine ⟨.slice (some ⟨B, 0, none⟩) xs.length cp', cells.take off ++ us ++ cells.drop (off + us.length), [B], _, rfl, rfl, ?_, rfl, ?_⟩
      · refine El.imp (fun c' x' b' hb' h' => ?_) hel'
        refine Rep.dpS (S := fun _ => False) (Rep.move (S := fun _ => False) (fun _ hf => absurd hf id) (fun b hb => hother b (fun e => ?_)) (Rep.dpS h'))
        subst e
        exact (List.nodup_append.1 hndn).2.2 b (by simp) b (hb' b hb) rfl
      · rw [List.length_set]
        have hcurl : off + us.length ≤ cur.toList.length := by rw [Array.length_toList]; exact hfit
        refine ⟨?_, .inr ⟨B, cp', cur', rfl, Nat.zero_le _, hsame, hnc, hcm, ?_, ?_⟩⟩
        · simp only [List.length_append, List.length_take, List.length_drop]; omega
        · rw [← hcs]
          simp only [cur', List.size_toArray, List.length_append, List.length_take, List.length_drop, Array.length_toList] at hcurl ⊢
          omega
        · rw [← htk]
          exact take_mid _ _ _ _ (by rw [hcl] at hoff; exact hoff) (by rw [← hcl, ← htk, List.length_take]; exact Nat.min_le_right _ _))
  refine unit_fin hdst (w' := w') ?_ (by unfold syncPlace; rw [put_length, chgEnv_length]; exact hlen1) h2 (fun r => ?_) hK hn
  · have hsize := TabOk.sizeOf hT ht
    have hcs : (evT a.tmps v).cells.size = τ.sz := by rw [← Array.length_toList]; show us.length = _; rw [← hus, hll]
    have hst := run_storeCells_at P B off e us 0 cur w hgB (by simpa using hfit) hone
    rw [Nat.add_zero] at hst
    simp [execOp, hop, evT_eval, c2, Instr.storeAt, Instr.sureAddr, storeVar, hsize, hcs]
    rw [show Sem.run P (storeCells { block := B, off := i.toNat * te.sz + oo } (evT a.tmps v).cells.toList) w = .ok () w' from hst]
    rfl
  · by_cases hr : r = env.length
    · subst hr; rw [upd_same]
    · rw [upd_ne _ _ hr]; show upd noP env.length _ r = _; rw [upd_ne _ _ hr]; rfl
end
end Go.FP

/- A tuple's part is taken out, with what it owns. Conditions: none. -/
namespace Go.FP
open Go.RowKit
set_option linter.unusedVariables false
set_option linter.unusedSimpArgs false

theorem spend_get : ∀ (n : Nat) (ls : List Leaf) (l : Nat), (spendLs n ls)[l]? = if l < n then (ls[l]?).map Leaf.spent else ls[l]?
  | n, [], l => by cases n <;> simp [spendLs]
  | 0, x :: ls, l => by simp [spendLs]
  | n + 1, x :: ls, 0 => by simp [spendLs]
  | n + 1, x :: ls, l + 1 => by simp only [spendLs, List.getElem?_cons_succ, Nat.add_lt_add_iff_right]; exact spend_get n ls l
theorem killLeaves_get : ∀ (ls : List Leaf) (off n l : Nat), (killLeaves ls off n)[l]? = if off ≤ l ∧ l < off + n then (ls[l]?).map Leaf.spent else ls[l]?
  | ls, 0, n, l => by simp only [killLeaves, spend_get, Nat.zero_le, true_and, Nat.zero_add]
  | [], off + 1, n, l => by simp [killLeaves]
  | x :: ls, off + 1, n, 0 => by simp [killLeaves]
  | x :: ls, off + 1, n, l + 1 => by
    simp only [killLeaves, List.getElem?_cons_succ, killLeaves_get ls off n l]
    by_cases h : off ≤ l ∧ l < off + n
    · rw [if_pos h, if_pos (by omega)]
    · rw [if_neg h, if_neg (by omega)]
theorem spend_len : ∀ (n : Nat) (ls : List Leaf), (spendLs n ls).length = ls.length
  | n, [] => by cases n <;> simp [spendLs]
  | 0, x :: ls => by simp [spendLs]
  | n + 1, x :: ls => by simp [spendLs, spend_len n ls]
theorem killLeaves_len : ∀ (ls : List Leaf) (off n : Nat), (killLeaves ls off n).length = ls.length
  | ls, 0, n => by simp [killLeaves, spend_len]
  | [], off + 1, n => by simp [killLeaves]
  | x :: ls, off + 1, n => by simp [killLeaves, killLeaves_len ls off n]

section
variable {P : Program} {o : Oper} {a : Act} {w : World} {R : Type} {K : Env → Option R} {r : R} {next : Act → World → Prop} {Q : Exit → Act → World → Prop} {c : Cx} {d : Nat} {T : Tab} {env : Env}

theorem RP.grabTup {tmps : Array Value} {vs : Nat → Value} (h : RP c env tmps w noP vs) {s i off n : Nat} {agg : Bool} {sh : List (Bool × Nat)} {ls : List Leaf} (hk : get env s = .con (.tup sh) ls) (ho : tupOff sh i = some (off, agg, n)) (hbare : ∀ l ∈ ls, l.m.bare = true) (hlive : ∀ l ∈ takeLs n (dropLs off ls), l.m.live = true) :
    ∃ (vl : List Value) (v : Value), evT tmps (.tmp s) = .tuple vl.toArray ∧ vl[i]? = some v ∧ RP c (put (killRoot s env) s (.con (.tup sh) (killLeaves ls off n))) tmps w (upd noP env.length (mkCon agg (takeLs n (dropLs off ls)))) (upd vs env.length v) := by
  let N := env.length
  have hsl : s < env.length := con_lt hk
  have hsN : s ≠ N := Nat.ne_of_lt hsl
  obtain ⟨hlen, cs, bs, hr, hno⟩ := h
  replace hr : Rel c (SS env noP tmps vs w cs bs) := hr
  have hbs := bs_none hr (Nat.le_refl env.length) rfl
  obtain ⟨hk2, hk3⟩ := hr.killRoot_ s
  let E := chgE (killG s) (ovl env noP)
  have hchg : chgs (killG s) ls = ls := by
    rw [chgs_eq]
    conv => rhs; rw [← List.map_id ls]
    refine List.map_congr_left (fun l hl => ?_)
    have := hbare l hl
    obtain ⟨t, x, m⟩ := l
    cases m with
    | bor _ _ _ => simp [Mode.bare] at this
    | _ => rfl
  have hEs : E s = .con (.tup sh) ls := by show (ovl env noP s).chg _ = _; rw [ovl_lt hsl, hk]; show AV.con _ (chgs _ _) = _; rw [hchg]
  have hEN : E N = .undef := by show (ovl env noP N).chg _ = _; rw [ovl_ge (Nat.le_refl _)]; rfl
  have hav := hk2.av s
  have e2 : ovlT tmps vs s = tmps.getD s undef := if_pos (hlen ▸ hsl)
  simp only [show chgE (killG s) (ovl env noP) s = _ from hEs, e2] at hav
  obtain ⟨⟨g0, vl, g1, gt⟩, g2, g3, g4⟩ := hav
  have g0 : bs s 0 = [] := g0
  have g2 : ls.length = (cs s).length := g2
  have g3 : ∀ l, ls.length ≤ l → bs s (l + 1) = [] := g3
  have g4 : ∀ l lf u, leafAt ls l = some lf → (cs s)[l]? = some u → LeafRel c ⟨E, ovlT tmps vs, w, cs, bs⟩ s l u lf := g4
  obtain ⟨v, f1, f2, f3, f4⟩ := tup_at gt ho
  refine ⟨vl, v, g1, f1, ?_⟩
  let sub := takeLs n (dropLs off ls)
  let cn := ((cs s).drop off).take n
  have hsub : ∀ l, sub[l]? = if l < n then ls[off + l]? else none := fun l => by
    show (takeLs n (dropLs off ls))[l]? = _
    rw [takeLs_eq, dropLs_eq, List.getElem?_take]
    split
    · rw [List.getElem?_drop]
    · rfl
  have hcn : ∀ l, cn[l]? = if l < n then (cs s)[off + l]? else none := fun l => by
    show (((cs s).drop off).take n)[l]? = _
    rw [List.getElem?_take]
    split
    · rw [List.getElem?_drop]
    · rfl
  have hsl2 : sub.length = n := by show (takeLs n (dropLs off ls)).length = n; rw [takeLs_eq, dropLs_eq, List.length_take, List.length_drop]; omega
  have hcl2 : cn.length = n := by show (((cs s).drop off).take n).length = n; rw [List.length_take, List.length_drop]; omega
  let bsS : Nat → List Nat := fun l => if off < l ∧ l ≤ off + n then [] else bs s l
  let bsN : Nat → List Nat := fun l => if 0 < l ∧ l ≤ n then bs s (off + l) else []
  let s' : St := ⟨upd (upd E s (.con (.tup sh) (killLeaves ls off n))) N (mkCon agg sub), upd (ovlT tmps vs) N v, w, upd cs N cn, upd (upd bs s bsS) N bsN⟩
  have ebS : s'.bs s = bsS := by show upd _ _ _ s = _; rw [upd_ne _ _ hsN, upd_same]
  have ebN : s'.bs N = bsN := upd_same _ _ _
  have eeS : s'.env s = .con (.tup sh) (killLeaves ls off n) := by show upd _ _ _ s = _; rw [upd_ne _ _ hsN, upd_same]
  have eeN : s'.env N = mkCon agg sub := upd_same _ _ _
  have ecS : s'.cs s = cs s := upd_ne _ _ hsN
  have ecN : s'.cs N = cn := upd_same _ _ _
  have hsame : ∀ p, ¬ (p = s ∨ p = N) → s'.env p = (E p).chg noG ∧ s'.tm p = ovlT tmps vs p ∧ s'.cs p = cs p ∧ s'.bs p = bs p := fun p hp => by
    simp only [not_or] at hp
    refine ⟨by rw [AV.chg_no]; show upd _ _ _ p = _; rw [upd_ne _ _ hp.2, upd_ne _ _ hp.1], upd_ne _ _ hp.2, upd_ne _ _ hp.2, ?_⟩
    show upd _ _ _ p = _
    rw [upd_ne _ _ hp.2, upd_ne _ _ hp.1]
  have hLr : ∀ p, (∀ z ∈ (E p).refs, z.1 ≠ s ∧ z.1 ≠ N) ∧ (∀ z ∈ (E p).ptrs, z ≠ s ∧ z ≠ N) := fun p =>
    ⟨fun z hz => ⟨(hk3 p).1 z hz, by have h1 := (hno p).1 z ((chg_refs (fewer_kill s) (ovl env noP p)).1 z hz); omega⟩,
      fun z hz => ⟨(hk3 p).2 z hz, by have h1 := (hno p).2 z ((chg_refs (fewer_kill s) (ovl env noP p)).2 z hz); omega⟩⟩
  have hstay : ∀ p j, p ≠ s ∧ p ≠ N → SamePl ⟨E, ovlT tmps vs, w, cs, bs⟩ s' p j := fun p j hp => by
    have hs4 := hsame p (by simp only [not_or]; exact hp)
    exact ⟨fun lf u ho => ho.chg hs4.1 hs4.2.2.1, by rw [hs4.2.2.2], fun _ _ => rfl⟩
  have hptr : ∀ p, p ≠ s ∧ p ≠ N → SamePtr ⟨E, ovlT tmps vs, w, cs, bs⟩ s' p := fun p hp => by
    have hs4 := hsame p (by simp only [not_or]; exact hp)
    exact SamePtr.chg hs4.1 hs4.2.1
  have hbS : ∀ l b, b ∈ bsS l → b ∈ bs s l ∧ ¬ (off < l ∧ l ≤ off + n) := fun l b hb => by
    simp only [bsS] at hb
    split at hb
    · simp at hb
    · exact ⟨hb, by assumption⟩
  have hbN : ∀ l b, b ∈ bsN l → b ∈ bs s (off + l) ∧ 0 < l ∧ l ≤ n := fun l b hb => by
    simp only [bsN] at hb
    split at hb
    · exact ⟨hb, by assumption⟩
    · simp at hb
  have hmain : Rel c s' := by
    refine Rel.step (s' := s') noG hk2 (fun p => p = s ∨ p = N) (fun p _ => p ≠ s ∧ p ≠ N) (fun p => p ≠ s ∧ p ≠ N) hsame (Below.refl _ _) (fun _ _ _ => rfl)
      (fun p l b hD hb => ?_) (fun p1 l1 p2 l2 b hD hD' hb1 hb2 => ?_) (fun p l hD => ?_) (fun p _ => hLr p) (fun hkp => ⟨chgLeaf_no hkp (fun p j hL => hstay p j hL), chgWr_no hkp (fun p j hL => hstay p j hL), fun p hL _ => hptr p hL⟩) (fun hkp p hD => ?_)
    · by_cases hp : p = s
      · subst hp
        rw [ebS] at hb
        have := (hbS l b hb).1
        exact ⟨(hk2.own _ _ _ this).2, .inr ⟨p, l, .inl rfl, this⟩⟩
      · have e := hD.resolve_left hp
        subst e
        rw [ebN] at hb
        have := (hbN l b hb).1
        exact ⟨(hk2.own _ _ _ this).2, .inr ⟨s, _, .inl rfl, this⟩⟩
    · by_cases h1 : p1 = s <;> by_cases h2 : p2 = s
      · subst h1; subst h2
        rw [ebS] at hb1 hb2
        exact ⟨rfl, (hk2.disj _ _ _ _ _ (hbS l1 b hb1).1 (hbS l2 b hb2).1).2⟩
      · subst h1
        have e := hD'.resolve_left h2
        subst e
        rw [ebS] at hb1
        rw [ebN] at hb2
        obtain ⟨k1, k2⟩ := hbS l1 b hb1
        obtain ⟨k3, k4⟩ := hbN l2 b hb2
        have := (hk2.disj _ _ _ _ _ k1 k3).2
        omega
      · subst h2
        have e := hD.resolve_left h1
        subst e
        rw [ebS] at hb2
        rw [ebN] at hb1
        obtain ⟨k1, k2⟩ := hbS l2 b hb2
        obtain ⟨k3, k4⟩ := hbN l1 b hb1
        have := (hk2.disj _ _ _ _ _ k1 k3).2
        omega
      · have e1 := hD.resolve_left h1
        have e2 := hD'.resolve_left h2
        subst e1; subst e2
        rw [ebN] at hb1 hb2
        have := (hk2.disj _ _ _ _ _ (hbN l1 b hb1).1 (hbN l2 b hb2).1).2
        exact ⟨rfl, by omega⟩
    · by_cases hp : p = s
      · subst hp
        rw [ebS]
        simp only [bsS]
        split
        · exact List.nodup_nil
        · exact hk2.nodup _ _
      · have e := hD.resolve_left hp
        subst e
        rw [ebN]
        simp only [bsN]
        split
        · exact hk2.nodup _ _
        · exact List.nodup_nil
    · by_cases hp : p = s
      · subst hp
        rw [eeS]
        have etm : s'.tm p = tmps.getD p undef := by show upd _ _ _ p = _; rw [upd_ne _ _ hsN]; exact e2
        rw [etm]
        refine ⟨⟨by rw [ebS]; show (if off < 0 ∧ _ then [] else bs p 0) = []; rw [if_neg (by omega)]; exact g0, vl, g1, by rw [ecS]; exact gt⟩, by rw [killLeaves_len, ecS]; exact g2, fun l hl => ?_, fun l lf u hl hu => ?_⟩
        · rw [killLeaves_len] at hl
          rw [ebS]
          simp only [bsS]
          split
          · rfl
          · exact g3 l hl
        · rw [ecS] at hu
          rw [leafAt_eq, killLeaves_get] at hl
          by_cases hin : off ≤ l ∧ l < off + n
          · rw [if_pos hin] at hl
            obtain ⟨lf0, hl0, rfl⟩ := Option.map_eq_some_iff.1 hl
            have h6 := g4 l lf0 u (by rw [leafAt_eq]; exact hl0) hu
            have hb0 : s'.bs p (l + 1) = [] := by rw [ebS]; exact if_pos (by omega)
            have hbare0 := hbare lf0 (List.mem_of_getElem? hl0)
            obtain ⟨t, x, m⟩ := lf0
            cases m with
            | bor _ _ _ => simp [Mode.bare] at hbare0
            | dead => exact ⟨hb0, h6.2⟩
            | at_ lv =>
              have hrep := h6.rep
              cases lv with
              | ro => exact LeafRel.of_held rfl hb0 (Rep.roS h6.2 (fun b hb hl => (hkp b hb hl).1) (by simp))
              | sh => exact ⟨hb0, Rep.one hrep u (by simp)⟩
              | dp => exact ⟨hb0, Rep.one hrep u (by simp)⟩
          · rw [if_neg hin] at hl
            have h6 := g4 l lf u (by rw [leafAt_eq]; exact hl) hu
            have hb0 : s'.bs p (l + 1) = bs p (l + 1) := by rw [ebS]; exact if_neg (by omega)
            have hbare0 := hbare lf (List.mem_of_getElem? hl)
            obtain ⟨t, x, m⟩ := lf
            cases m with
            | bor _ _ _ => simp [Mode.bare] at hbare0
            | dead => exact ⟨hb0.trans h6.1, h6.2⟩
            | at_ lv =>
              refine LeafRel.of_rep ?_
              rw [hb0]
              exact Rep.move (fun b hb hl => hkp b hb hl) (fun _ _ => rfl) h6.rep
      · have e := hD.resolve_left hp
        subst e
        rw [eeN]
        have etm : s'.tm N = v := upd_same _ _ _
        rw [etm]
        have hkc : KCells w [] (if agg then .agg else .val) (mkV agg cn) cn := KCells_mkV (fun h => by rw [hcl2]; exact f4 h)
        refine ⟨?_, by rw [ecN, hcl2]; exact hsl2, fun l hl => ?_, fun l lf u hl hu => ?_⟩
        · rw [ecN, f3]
          exact hkc.bare (by rw [ebN]; exact if_neg (by omega))
        · rw [ebN]
          have hl : sub.length ≤ l := hl
          exact if_neg (by omega)
        · rw [ecN, hcn] at hu
          rw [leafAt_eq, hsub] at hl
          split at hl
          · rename_i hln
            rw [if_pos hln] at hu
            have h6 := g4 _ lf u (by rw [leafAt_eq]; exact hl) hu
            have hbare0 := hbare lf (List.mem_of_getElem? hl)
            have hlive0 := hlive lf (List.mem_of_getElem? (i := l) (by rw [hsub, if_pos hln]; exact hl))
            obtain ⟨t, x, m⟩ := lf
            cases m with
            | bor _ _ _ => simp [Mode.bare] at hbare0
            | dead => simp [Mode.live] at hlive0
            | at_ lv =>
              refine LeafRel.of_rep ?_
              have hb0 : s'.bs N (l + 1) = bs s (off + l + 1) := by rw [ebN]; exact if_pos (by omega)
              rw [hb0]
              exact Rep.move (fun b hb hl => hkp b hb hl) (fun _ _ => rfl) h6.rep
          · simp at hl
  have elen : (put (killRoot s env) s (.con (.tup sh) (killLeaves ls off n))).length = env.length := by rw [put_length, killRoot_length]
  have eE : s'.env = ovl (put (killRoot s env) s (.con (.tup sh) (killLeaves ls off n))) (upd noP env.length (mkCon agg sub)) := by
    rw [ovl_updP (by rw [elen]; exact Nat.le_refl _), ovl_put (by rw [killRoot_length]; exact hsl)]
    unfold killRoot
    rw [ovl_put (by rw [chgEnv_length]; exact hsl), ← ovl_chg _ _ noP (fun _ => .inl rfl), upd_upd_same]
  refine ⟨by rw [elen]; exact hlen, _, _, Rel.congr hmain eE (ovlT_updV (by omega) v).symm, fun p => ?_⟩
  rw [← eE, elen]
  by_cases hpN : p = N
  · subst hpN
    rw [eeN]
    have : ∀ l ∈ sub, l.m.settled = true := fun l hl => by
      have h1 := hlive l hl
      have h2 := hbare l (by
        have : l ∈ takeLs n (dropLs off ls) := hl
        rw [takeLs_eq, dropLs_eq] at this
        exact List.mem_of_mem_drop (List.mem_of_mem_take this))
      obtain ⟨t, x, m⟩ := l
      cases m with
      | at_ _ => rfl
      | bor _ _ _ => simp [Mode.bare] at h2
      | dead => simp [Mode.live] at h1
    unfold mkCon
    rw [(settled_refs this).1, (settled_refs this).2]
    exact ⟨by simp, by simp⟩
  · by_cases hps : p = s
    · subst hps
      rw [eeS]
      refine ⟨fun z hz => ?_, by simp [AV.ptrs]⟩
      simp only [AV.refs, List.mem_flatMap] at hz
      obtain ⟨lf, hlf, hz⟩ := hz
      obtain ⟨l, hl⟩ := List.getElem?_of_mem hlf
      rw [killLeaves_get] at hl
      have : lf.refs = [] := by
        split at hl
        · obtain ⟨lf0, hl0, rfl⟩ := Option.map_eq_some_iff.1 hl
          have hb := hbare lf0 (List.mem_of_getElem? hl0)
          obtain ⟨t, x, m⟩ := lf0
          cases m with
          | at_ lv => cases lv <;> rfl
          | bor _ _ _ => simp [Mode.bare] at hb
          | dead => rfl
        · have hb := hbare lf (List.mem_of_getElem? hl)
          obtain ⟨t, x, m⟩ := lf
          cases m with
          | at_ lv => rfl
          | bor _ _ _ => simp [Mode.bare] at hb
          | dead => rfl
      rw [this] at hz
      simp at hz
    · rw [(hsame p (by simp only [not_or]; exact ⟨hps, hpN⟩)).1, AV.chg_no]
      have := chg_refs (fewer_kill s) (ovl env noP p)
      exact ⟨fun z hz => (hno p).1 z (this.1 z hz), fun z hz => (hno p).2 z (this.2 z hz)⟩

theorem op_extract_own {s i off n : Nat} {agg : Bool} {sh : List (Bool × Nat)} {ls : List Leaf} (hop : o.op = .extract (.tmp s) i) (hdst : o.dst = some d) (hr : RE c env a.tmps w) (hd : d < env.length) (hs : get env s = .con (.tup sh) ls) (ho : tupOff sh i = some (off, agg, n))
    (hlive : (takeLs n (dropLs off ls)).all (fun l => l.m.live) = true) (hbare : ls.all (fun l => l.m.bare) = true) (hK : K (setD (some d) (put (killRoot s env) s (.con (.tup sh) (killLeaves ls off n))) (mkCon agg (takeLs n (dropLs off ls)))) = some r) (hn : Next c a K r env.length next) : o.wp P a w next Q := by
  obtain ⟨vs, h⟩ := hr
  obtain ⟨vl, v, e1, e2, h1⟩ := h.grabTup hs ho (fun l hl => List.all_eq_true.1 hbare l hl) (fun l hl => List.all_eq_true.1 hlive l hl)
  have elen : (put (killRoot s env) s (.con (.tup sh) (killLeaves ls off n))).length = env.length := by rw [put_length, killRoot_length]
  rw [← elen] at h1
  refine fin hdst (v := v) ?_ (by rw [elen]; exact hd) elen h1 (by rw [upd_same]) hK hn
  simp [execOp, hop, evT_eval, e1, Instr.extract, e2]
end
end Go.FP

/- append to a row that stands in an element of a place: what the machine does. Conditions: none. -/
namespace Go.FP
open Go.RowKit
set_option linter.unusedVariables false
set_option linter.unusedSimpArgs false

theorem ownsRow_fun {w : World} {e : TypeId} {size n : Nat} {v : Value} {xs ys : List Value} (h : w.ownsRow 0 e size v n xs) (k : w.ownsRow 0 e size v n ys) : xs = ys := by
  obtain ⟨h1, h2⟩ := h
  obtain ⟨k1, k2⟩ := k
  rcases h2 with ⟨rfl, rfl⟩ | ⟨g, cap, cur, rfl, _, hg, _, _, _, ht⟩
  · have e1 : xs = [] := List.length_eq_zero_iff.1 (by simpa using h1)
    have e2 : ys = [] := List.length_eq_zero_iff.1 (by simpa using k1)
    rw [e1, e2]
  · rcases k2 with ⟨h, _⟩ | ⟨g', cap', cur', h, _, hg', _, _, _, ht'⟩
    · simp at h
    · simp only [Value.slice.injEq, Option.some.injEq, Addr.mk.injEq, and_true, true_and] at h
      obtain ⟨rfl, rfl⟩ := h
      rw [hg] at hg'
      simp only [Option.some.injEq, Obj.cells.injEq, and_true] at hg'
      subst hg'
      rw [← ht, ← ht']

/-- What stood in the row before goes on to stand there. -/
theorem append_keeps {P : Program} (w : World) (t ty e : TypeId) (i : TypeInfo) (z : Value) (size bytes : Nat) (ht : P.underlying t = some (.slice e)) (hi : P.info? e = some i) (hz : i.zero = some z)
    (hsize : i.size = size) (hby : i.bytes = bytes) (hsz : 0 < size) (v : Value) (n : Nat) (xs : List Value) (hown : w.ownsRow 0 e size v n xs)
    (a : Addr) (m c : Nat) (news : List Value) (hl : news.length = m * size) (hnews : ∀ j u, news[j]? = some u → w.cell? (a.add j) = some u) (h1 : ∀ u ∈ news, u.oneCell' = true)
    (h63 : n + m ≤ maxLen) (hbytes : (n + m) * bytes ≤ 140737488355328) {v' : Value} {w' : World} (hr : (Builtin.append_ #[t, t] ty #[v, .slice (some a) m c]).run P w = .ok v' w') : w'.ownsRow 0 e size v n xs ∧ (v'.ownBlock = some w.heap.size → ∀ k, v.ownBlock = some k → w'.heap[k]? = w.heap[k]?) := by
  subst hsize
  subst hby
  have hsmall : n + m ≤ 9223372036854775807 := by simp only [maxLen] at h63; omega
  obtain ⟨o1, o2⟩ := hown
  rcases o2 with ⟨rfl, rfl⟩ | ⟨g, cap, cur, rfl, hbg, hg, hnc, hcm, hcs, htake⟩
  · exact ⟨⟨o1, .inl ⟨rfl, rfl⟩⟩, fun _ k hk => by simp [Value.ownBlock] at hk⟩
  · have hnl : n * i.size ≤ cur.toList.length := by
      rw [Array.length_toList, hcs]; exact Nat.mul_le_mul_right _ hnc
    by_cases hroom : n + m ≤ cap
    · have hfit : n * i.size + news.length ≤ cur.size := by rw [hl, hcs, ← Nat.add_mul]; exact Nat.mul_le_mul_right _ hroom
      have hr2 := run_append_room (P := P) w t ty e i ht hi g n cap cur hg a m c news hl hnews h1 hroom hfit
      rw [hr2] at hr
      obtain ⟨rfl, rfl⟩ : _ ∧ _ := by simpa using hr
      refine ⟨⟨o1, .inr ⟨g, cap, _, rfl, hbg, setRow_heap w g cur _ e _ hg, hnc, hcm, ?_, ?_⟩⟩, fun hw k hk => ?_⟩
      · simp only [List.size_toArray, List.length_append, List.length_take, List.length_drop, Array.length_toList]
        omega
      · rw [← htake]
        show List.take _ (_ ++ _) = _
        rw [List.take_append_of_le_length (by rw [List.length_take]; omega), List.take_take, Nat.min_self]
      · have : g = w.heap.size := by simpa [Value.ownBlock] using hw
        have := (Array.getElem?_eq_some_iff.1 hg).1
        omega
    · have own : w.ownsRow 0 e i.size (.slice (some ⟨g, 0, none⟩) n cap) n xs := ⟨o1, .inr ⟨g, cap, cur, rfl, hbg, hg, hnc, hcm, hcs, htake⟩⟩
      have holds : ∀ j u, xs[j]? = some u → w.cell? ((⟨g, 0, none⟩ : Addr).add j) = some u := own.cells (g := g) rfl
      have hr2 := run_append_grow (P := P) w t ty e i z ht hi hz ⟨g, 0, none⟩ n cap xs o1 holds a m c news hl hnews (by omega) (by omega) (growslice_fits (by omega) hbytes)
      rw [hr2] at hr
      obtain ⟨rfl, rfl⟩ : _ ∧ _ := by simpa using hr
      have old : ∀ (o : Obj) k, Value.ownBlock (.slice (some ⟨g, 0, none⟩) n cap) = some k → (w.drew.alloc o).heap[k]? = w.heap[k]? := fun o k hk => by
        have : g = k := by simpa [Value.ownBlock] using hk
        subst this
        exact heap_alloc_old w.drew _ (Array.getElem?_eq_some_iff.1 hg).1
      exact ⟨own_moved own (old _), fun _ => old _⟩

/-- append, on a row that is owned and something that may be read. -/
theorem append_run {P : Program} {T : Tab} (hT : TabOk P T) {t : TypeId} {te : TE} (ht : elemAt T t = some te) (ty : TypeId) {w : World} {S : Nat → Prop} {v xv : Value} {n : Nat} {cls : List Value} {xs : List te.ty.D} (hown : w.ownsRow 0 te.id te.ty.sz v n cls)
    (hx : Rep S w (.slice te.id te.ty) .ro [xv] xs []) (hbd : (n + xs.length) * te.bytes ≤ 140737488355328) :
    ∃ v' w' clx, (Builtin.append_ #[t, t] ty #[v, xv]).run P w = .ok v' w' ∧ w'.ownsRow 0 te.id te.ty.sz v' (n + xs.length) (cls ++ clx) ∧ El (Rep S w te.ty .ro) te.ty.sz clx xs [] ∧ w.grownBy w' v.ownBlock ∧
      (v'.ownBlock = v.ownBlock ∨ v'.ownBlock = some w.heap.size) ∧ w'.ownsRow 0 te.id te.ty.sz v n cls ∧ (v'.ownBlock = some w.heap.size → ∀ k, v.ownBlock = some k → w'.heap[k]? = w.heap[k]?) := by
  obtain ⟨hty, hund, _, hsz, hby, i0, hi0, hi1, hi2, hi3⟩ := TabOk.elem hT ht
  obtain ⟨u, clx, b0, b1, e1, e2, hel, hrw⟩ := hx
  have e1 : xv = u := by simpa using e1
  subst e1
  obtain ⟨rfl, rfl⟩ := List.append_eq_nil_iff.1 e2.symm
  obtain ⟨_, A, cp, e3, hl, hz, hc⟩ := hrw
  have hxlen := hel.len
  have hxone := hel.all (p := fun u => u.oneCell' = true) (fun c x b h => Rep.one h)
  cases A with
  | some ad =>
    have hz' : (zeroVal te.ty).cells.size = te.ty.sz := by rw [← Array.length_toList, zeroVal_cells, zeroCells_len]
    have h63 : n + xs.length ≤ maxLen := by
      have : (n + xs.length) * 1 ≤ (n + xs.length) * te.bytes := Nat.mul_le_mul_left _ hby
      simp only [maxLen]
      omega
    have hcx : ∀ (j : Nat) (u : Value), clx[j]? = some u → w.cell? (ad.add j) = some u := fun j u hu => by obtain ⟨a, h1, _, h2⟩ := hc j u hu; cases h1; exact h2
    obtain ⟨v', w', h1, h2, h3, _, h5⟩ := run_append_own_at (P := P) w 0 t ty te.id i0 (zeroVal te.ty) te.ty.sz te.bytes hund hi0 hi3 hi1 hi2 hz' hsz v n cls hown ad xs.length cp clx hxlen hcx hxone h63 hbd (Nat.zero_le _)
    obtain ⟨k1, k2⟩ := append_keeps (P := P) w t ty te.id i0 (zeroVal te.ty) te.ty.sz te.bytes hund hi0 hi3 hi1 hi2 hsz v n cls hown ad xs.length cp clx hxlen hcx hxone h63 hbd h1
    exact ⟨v', w', clx, by rw [e3]; exact h1, h2, hel, h3, h5, k1, k2⟩
  | none =>
    have hcp := hz rfl
    subst hcp
    have hx0 : xs.length = 0 := by omega
    have hcl : clx = [] := List.length_eq_zero_iff.1 (by rw [hxlen, hx0, Nat.zero_mul])
    refine ⟨v, w, clx, ?_, by rw [hx0, hcl, List.append_nil]; exact hown, hel, ⟨rfl, rfl, rfl, Nat.le_refl _, fun _ _ _ => rfl⟩, .inl rfl, hown, fun _ _ _ => rfl⟩
    rw [e3, hx0]
    exact run_append_owned_none (P := P) (w := w) 0 t ty te.id i0 te.ty.sz hund hi0 v n cls hown

/-- The element at i, and the others seen otherwise. -/
theorem El.at2 {α : Type} {P : List Value → α → List Nat → Prop} {n : Nat} : ∀ {l : List α} {xs : List Value} {bs : List Nat} (i : Nat) (h : i < l.length), El P n xs l bs →
    ∃ pre c post b0 b b1, xs = pre ++ c ++ post ∧ pre.length = i * n ∧ c.length = n ∧ bs = b0 ++ b ++ b1 ∧ P c l[i] b ∧
      (∀ (Q : List Value → α → List Nat → Prop), (∀ c x b', (∀ k ∈ b', k ∈ b0 ++ b1) → P c x b' → Q c x b') → ∀ c' y b', c'.length = n → Q c' y b' → El Q n (pre ++ c' ++ post) (l.set i y) (b0 ++ b' ++ b1))
  | [], _, _, i, h, _ => by simp at h
  | x :: r, xs, bs, 0, h, ⟨c, xs', b, bs', e, l, eb, p, t⟩ =>
    ⟨[], c, xs', [], b, bs', by simpa using e, by simp, l, by simpa using eb, p, fun Q hQ c' y b' hl hp => ⟨c', xs', b', bs', by simp, hl, by simp, hp, El.imp (fun c x b' hb => hQ c x b' (by simpa using hb)) t⟩⟩
  | x :: r, xs, bs, i + 1, h, ⟨c, xs', b, bs', e, l, eb, p, t⟩ => by
    obtain ⟨pre, c1, post, b0, b1, b2, e1, l1, l2, eb1, p1, k1⟩ := El.at2 i (by simpa using h) t
    refine ⟨c ++ pre, c1, post, b ++ b0, b1, b2, by rw [e, e1]; simp [List.append_assoc], by rw [List.length_append, l, l1, Nat.add_mul]; omega, l2, by rw [eb, eb1]; simp [List.append_assoc], p1, ?_⟩
    intro Q hQ c' y b' hl hp
    exact ⟨c, pre ++ c' ++ post, b, b0 ++ b' ++ b2, by simp [List.append_assoc], l, by simp [List.append_assoc], hQ _ _ _ (fun k hk => by simp [hk]) p, k1 Q (fun c x b' hb hp => hQ c x b' (fun k hk => by have := hb k hk; simp only [List.mem_append] at this ⊢; rcases this with h | h <;> simp [h]) hp) c' y b' hl hp⟩

/-- The leaf at o of a value that lies in memory. -/
theorem Rep.leafAt {S : Nat → Prop} {w : World} : ∀ (t : Ty) {lv : Lvl} {cs : List Value} {x : t.D} {bs : List Nat} {o : Nat} {q : Σ t : Ty, t.D}, Rep S w t lv cs x bs → leafD t x o = some q →
    ∃ u bA bl bB, cs[o]? = some u ∧ bs = bA ++ bl ++ bB ∧ Rep S w q.1 lv [u] q.2 bl ∧
      ∀ (S' : Nat → Prop) (w' : World) (u' : Value) (l : Leaf) (bl' : List Nat), l.t = q.1 → Rep S' w' l.t lv [u'] l.x bl' → (∀ b, S b → b < w.heap.size → S' b ∧ w'.heap[b]? = w.heap[b]?) → (∀ b ∈ bA ++ bB, w'.heap[b]? = w.heap[b]?) →
        ∃ y, updLeafD t x o l = some y ∧ Rep S' w' t lv (cs.set o u') y (bA ++ bl' ++ bB)
  | .int k, lv, cs, x, bs, o, q, h, hl => by
    simp only [leafD] at hl
    split at hl
    · rename_i ho
      subst ho
      simp only [Option.some.injEq] at hl
      subst hl
      obtain ⟨rfl, rfl⟩ := h
      refine ⟨_, [], [], [], rfl, rfl, ⟨rfl, rfl⟩, fun S' w' u' l bl' hlt hr _ _ => ?_⟩
      obtain ⟨lt, lx, lm⟩ := l
      simp only at hlt
      subst hlt
      obtain ⟨e1, rfl⟩ := hr
      exact ⟨lx, by simp [updLeafD, Leaf.as], by simpa using e1, rfl⟩
    · simp at hl
  | .bool, lv, cs, x, bs, o, q, h, hl => by
    simp only [leafD] at hl
    split at hl
    · rename_i ho
      subst ho
      simp only [Option.some.injEq] at hl
      subst hl
      obtain ⟨rfl, rfl⟩ := h
      refine ⟨_, [], [], [], rfl, rfl, ⟨rfl, rfl⟩, fun S' w' u' l bl' hlt hr _ _ => ?_⟩
      obtain ⟨lt, lx, lm⟩ := l
      simp only at hlt
      subst hlt
      obtain ⟨e1, rfl⟩ := hr
      exact ⟨lx, by simp [updLeafD, Leaf.as], by simpa using e1, rfl⟩
    · simp at hl
  | .str, lv, cs, x, bs, o, q, h, hl => by
    simp only [leafD] at hl
    split at hl
    · rename_i ho
      subst ho
      simp only [Option.some.injEq] at hl
      subst hl
      obtain ⟨rfl, rfl⟩ := h
      refine ⟨_, [], [], [], rfl, rfl, ⟨rfl, rfl⟩, fun S' w' u' l bl' hlt hr _ _ => ?_⟩
      obtain ⟨lt, lx, lm⟩ := l
      simp only at hlt
      subst hlt
      obtain ⟨e1, rfl⟩ := hr
      exact ⟨lx, by simp [updLeafD, Leaf.as], by simpa using e1, rfl⟩
    · simp at hl
  | .slice e t, lv, cs, x, bs, o, q, h, hl => by
    simp only [leafD] at hl
    split at hl
    · rename_i ho
      subst ho
      simp only [Option.some.injEq] at hl
      subst hl
      obtain ⟨v, c1, b0, b1, rfl, rfl, h3, h4⟩ := h
      refine ⟨v, [], b0 ++ b1, [], rfl, by simp, ⟨v, c1, b0, b1, rfl, rfl, h3, h4⟩, fun S' w' u' l bl' hlt hr _ _ => ?_⟩
      obtain ⟨lt, lx, lm⟩ := l
      simp only at hlt
      subst hlt
      exact ⟨lx, by simp [updLeafD, Leaf.as], by simpa using hr⟩
    · simp at hl
  | .unit, lv, cs, x, bs, o, q, h, hl => by simp [leafD] at hl
  | .pair a b, lv, cs, x, bs, o, q, h, hl => by
    obtain ⟨c1, c2, b1, b2, rfl, rfl, h1, h2⟩ := h
    have hc1 := Rep.len h1
    simp only [leafD] at hl
    split at hl
    · rename_i ho
      obtain ⟨u, bA, bl, bB, k1, k2, k3, k4⟩ := Rep.leafAt a h1 hl
      subst k2
      refine ⟨u, bA, bl, bB ++ b2, by rw [List.getElem?_append_left (by omega)]; exact k1, by simp only [List.append_assoc], k3, fun S' w' u' l bl' hlt hr hS hb => ?_⟩
      obtain ⟨y, m1, m2⟩ := k4 S' w' u' l bl' hlt hr hS (fun b hb' => hb b (by simp only [List.mem_append] at hb' ⊢; rcases hb' with h | h <;> simp [h]))
      refine ⟨(y, x.2), by simp only [updLeafD]; rw [if_pos ho, m1], c1.set o u', c2, bA ++ bl' ++ bB, b2, by rw [List.set_append_left _ _ (by omega)], by simp only [List.append_assoc], m2, ?_⟩
      exact Rep.move hS (fun b hb' => hb b (by simp [hb'])) h2
    · rename_i ho
      obtain ⟨u, bA, bl, bB, k1, k2, k3, k4⟩ := Rep.leafAt b h2 hl
      subst k2
      refine ⟨u, b1 ++ bA, bl, bB, by rw [List.getElem?_append_right (by omega), hc1]; exact k1, by simp only [List.append_assoc], k3, fun S' w' u' l bl' hlt hr hS hb => ?_⟩
      obtain ⟨y, m1, m2⟩ := k4 S' w' u' l bl' hlt hr hS (fun b hb' => hb b (by simp only [List.mem_append] at hb' ⊢; rcases hb' with h | h <;> simp [h]))
      refine ⟨(x.1, y), by simp only [updLeafD]; rw [if_neg ho, m1], c1, c2.set (o - a.sz) u', b1, bA ++ bl' ++ bB, by rw [List.set_append_right _ _ (by omega), hc1], by simp only [List.append_assoc], ?_, m2⟩
      exact Rep.move hS (fun b hb' => hb b (by simp [hb'])) h1
theorem updLeafD_same : ∀ (t : Ty) {x : t.D} {o : Nat} {q : Σ t : Ty, t.D} {l : Leaf}, leafD t x o = some q → l.t = q.1 → HEq l.x q.2 → updLeafD t x o l = some x
  | .int k, x, o, q, l, h, h1, h2 => by
    simp only [leafD] at h
    split at h
    · rename_i ho
      simp only [Option.some.injEq] at h
      subst h
      obtain ⟨lt, lx, lm⟩ := l
      simp only at h1 h2
      subst h1
      simp only [heq_eq_eq] at h2
      subst h2
      simp [updLeafD, ho, Leaf.as]
    · simp at h
  | .bool, x, o, q, l, h, h1, h2 => by
    simp only [leafD] at h
    split at h
    · rename_i ho
      simp only [Option.some.injEq] at h
      subst h
      obtain ⟨lt, lx, lm⟩ := l
      simp only at h1 h2
      subst h1
      simp only [heq_eq_eq] at h2
      subst h2
      simp [updLeafD, ho, Leaf.as]
    · simp at h
  | .str, x, o, q, l, h, h1, h2 => by
    simp only [leafD] at h
    split at h
    · rename_i ho
      simp only [Option.some.injEq] at h
      subst h
      obtain ⟨lt, lx, lm⟩ := l
      simp only at h1 h2
      subst h1
      simp only [heq_eq_eq] at h2
      subst h2
      simp [updLeafD, ho, Leaf.as]
    · simp at h
  | .slice e t, x, o, q, l, h, h1, h2 => by
    simp only [leafD] at h
    split at h
    · rename_i ho
      simp only [Option.some.injEq] at h
      subst h
      obtain ⟨lt, lx, lm⟩ := l
      simp only at h1 h2
      subst h1
      simp only [heq_eq_eq] at h2
      subst h2
      simp [updLeafD, ho, Leaf.as]
    · simp at h
  | .unit, x, o, q, l, h, _, _ => by simp [leafD] at h
  | .pair a b, x, o, q, l, h, h1, h2 => by
    simp only [leafD] at h
    split at h
    · rename_i ho
      simp only [updLeafD]
      rw [if_pos ho, updLeafD_same a h h1 h2]
    · rename_i ho
      simp only [updLeafD]
      rw [if_neg ho, updLeafD_same b h h1 h2]
end Go.FP

/- append to a row that stands in an element of a place, and the store that follows: the operations. Conditions: none. -/
namespace Go.FP
open Go.RowKit
set_option linter.unusedVariables false
set_option linter.unusedSimpArgs false

theorem syncPlace_length (r j : Nat) (n : Leaf) (env : Env) : (syncPlace r j n env).length = env.length := by unfold syncPlace; rw [put_length, chgEnv_length]
theorem syncPlace_leaf {r j : Nat} {n lf : Leaf} {env : Env} (h : (get env r).leaf? j = some lf) : (get (syncPlace r j n env) r).leaf? j = some n := by
  have hrl := leaf_lt h
  obtain ⟨k, ls0, hv0⟩ : ∃ k ls, get env r = .con k ls := by
    cases hv : get env r with
    | con k ls => exact ⟨k, ls, rfl⟩
    | _ => rw [hv] at h; simp [AV.leaf?] at h
  unfold syncPlace
  rw [get_put_lt (by rw [chgEnv_length]; exact hrl), upd_same, get_chgEnv, hv0]
  rw [hv0] at h
  simp only [AV.leaf?, leafAt_eq] at h
  simp only [AV.chg, AV.setLeaf, AV.leaf?, leafAt_eq, setAt_eq]
  rw [List.getElem?_set_self (by rw [chgs_length]; exact (List.getElem?_eq_some_iff.1 h).1)]

/-- A place that holds rows: where they lie. -/
theorem place_near {c : Cx} {env : Env} {ps : Nat → AV} {tmps : Array Value} {vs : Nat → Value} {w : World} {cs : Nat → List Value} {bs : Nat → Nat → List Nat} (hrel : Rel c (SS env ps tmps vs w cs bs)) {r j : Nat} {e : TypeId} {t : Ty} {ys : List t.D}
    (hq : (get env r).leaf? j = some ⟨.slice e t, ys, .at_ .dp⟩) (h0 : 0 < ys.length) :
    ∃ B cp cells b1, (cs r)[j]? = some (.slice (some ⟨B, 0, none⟩) ys.length cp) ∧ bs r (j + 1) = B :: b1 ∧ El (Rep (fun _ => False) w t .dp) t.sz cells ys b1 ∧ w.ownsRow 0 e t.sz (.slice (some ⟨B, 0, none⟩) ys.length cp) ys.length cells := by
  have hrl := leaf_lt hq
  have hav := hrel.av r
  have e1 : (SS env ps tmps vs w cs bs).env r = get env r := ovl_lt hrl
  rw [e1] at hav
  obtain ⟨k, ls0, hv0⟩ : ∃ k ls, get env r = .con k ls := by
    cases hv : get env r with
    | con k ls => exact ⟨k, ls, rfl⟩
    | _ => rw [hv] at hq; simp [AV.leaf?] at hq
  rw [hv0] at hav hq
  have hl0 : leafAt ls0 j = some ⟨.slice e t, ys, .at_ .dp⟩ := hq
  have hlt : j < ls0.length := by rw [leafAt_eq] at hl0; exact (List.getElem?_eq_some_iff.1 hl0).1
  have g2 : ls0.length = (cs r).length := hav.2.1
  have hu : (cs r)[j]? = some ((cs r)[j]'(by omega)) := List.getElem?_eq_getElem (by omega)
  have hrep := (hav.2.2.2 j _ _ hl0 hu).rep
  obtain ⟨v, cells, b0, b1, f1, f2, f3, f4⟩ := hrep
  have f1 : (cs r)[j]'(by omega) = v := by simpa using f1
  rw [f1] at hu
  obtain ⟨f4, f5⟩ := f4
  rcases f5.2 with ⟨_, hn⟩ | ⟨g, cap, cur, rfl, _⟩
  · omega
  · have f4 : b0 = [g] := f4
    subst f4
    exact ⟨g, cap, cells, b1, hu, f2, El.imp (fun c x b hb h => Rep.dpS h) f3, f5⟩

theorem row_cell {w : World} {e : TypeId} {sz n : Nat} {B k cp : Nat} {cells : List Value} {u : Value} (h : w.ownsRow 0 e sz (.slice (some ⟨B, 0, none⟩) n cp) n cells) (hu : cells[k]? = some u) : w.cell? ⟨B, k, none⟩ = some u := by
  have := World.ownsRow.cells (g := B) h rfl k u hu
  rwa [add_lit', Nat.zero_add] at this

section
variable {P : Program} {o : Oper} {a : Act} {w : World} {R : Type} {K : Env → Option R} {r0 : R} {next : Act → World → Prop} {Q : Exit → Act → World → Prop} {c : Cx} {d : Nat} {T : Tab} {env : Env}

theorem op_appendN (hT : TabOk P T) {t : TypeId} {te : TE} {s x : Operand} {cl : Call} {r j oo : Nat} {i : Int} (hop : o.op = .call cl) (hc : cl.callee = .builtin .append) (hargs : cl.args.toList = [s, x]) (htys : cl.argTypes.toList = [t, t]) (hdst : o.dst = some d)
    (hr : RE c env a.tmps w) (hd : d < env.length) (ht : elemAt T t = some te) (hs : nestOf env s = some (r, j, i, oo)) (hK : appendN d te r j i oo x env K = some r0) (hn : Next c a K r0 env.length next) : o.wp P a w next Q := by
  unfold appendN at hK
  split at hK
  · rename_i lx hrd
    split at hK
    · rename_i xs has
      split at hK
      · rename_i hlf
        obtain ⟨hl, hf⟩ := hlf
        split at hK
        · rename_i e t' ys lv hq
          split at hK
          · rename_i hlv
            subst hlv
            have hi : 0 ≤ i ∧ i < (ys.length : Int) := by
              apply Decidable.byContradiction
              intro h'
              have : (decide (0 ≤ i) && decide (i < (ys.length : Int))) = false := by
                rw [Bool.and_eq_false_iff, decide_eq_false_iff_not, decide_eq_false_iff_not]; omega
              rw [this] at hK; simp at hK
            rw [decide_eq_true hi.1, decide_eq_true hi.2] at hK
            replace hK : (match leafD t' (ys.getD i.toNat t'.dflt) oo with
              | some q => match (⟨q.1, q.2, .at_ .dp⟩ : Leaf).as (.slice te.id te.ty) with
                | some row => appendTo te .dp row xs fun l => K (setD (some d) (syncPlace r j ⟨.slice e t', ys, .at_ .dp⟩ env) (.grow r j i oo l))
                | none => none
              | none => none) = some r0 := hK
            have hin : i.toNat < ys.length := by omega
            have hgetD : ys.getD i.toNat t'.dflt = ys[i.toNat] := by simp [hin]
            rw [hgetD] at hK
            split at hK
            · rename_i q hleaf
              split at hK
              · rename_i row hrow
                have hle := Leaf.as_eq hrow
                have hq1 : q = ⟨.slice te.id te.ty, row⟩ := by
                  obtain ⟨q1, q2⟩ := q
                  simp only [Leaf.mk.injEq] at hle
                  obtain ⟨rfl, h2, _⟩ := hle
                  simp only [heq_eq_eq] at h2
                  rw [h2]
                subst hq1
                unfold appendTo at hK
                have hb : (row.length + xs.length) * te.bytes ≤ 140737488355328 := by
                  apply Decidable.byContradiction
                  intro h'
                  rw [decide_eq_false h'] at hK
                  simp at hK
                rw [decide_eq_true hb] at hK
                replace hK : K (setD (some d) (syncPlace r j ⟨.slice e t', ys, .at_ .dp⟩ env) (.grow r j i oo ⟨.slice te.id te.ty, row ++ xs, .at_ .dp⟩)) = some r0 := hK
                -- the name of the row
                unfold nestOf at hs
                split at hs
                · rename_i s0
                  split at hs
                  · rename_i t1 y1 r1 j1 i1 o1 hg0
                    simp only [Option.some.injEq, Prod.mk.injEq] at hs
                    obtain ⟨rfl, rfl, rfl, rfl⟩ := hs
                    obtain ⟨vs, hlen, cs, bs, hrel, hno⟩ := hr
                    have hr : RE c env a.tmps w := ⟨vs, hlen, cs, bs, hrel, hno⟩
                    have hs0 : s0 < env.length := con_lt hg0
                    have hrl : r1 < env.length := leaf_lt hq
                    let S := SS env noP a.tmps vs w cs bs
                    obtain ⟨B, cp, cells, b1, n1, n2, n3, n4⟩ := place_near hrel hq (by omega)
                    obtain ⟨pre, ch, post, x0, x1, x2, f1, f2, f3, f4, f5, f6⟩ := El.at2 i1.toNat hin n3
                    have f5 : Rep (fun _ => False) w t' .dp ch ys[i1.toNat] x1 := f5
                    obtain ⟨u1, bA, bl, bB, g1, g2, g3, g4⟩ := Rep.leafAt t' f5 hleaf
                    have hoo : o1 < t'.sz := by
                      have := (List.getElem?_eq_some_iff.1 g1).1
                      omega
                    have hcell : w.cell? ⟨B, i1.toNat * t'.sz + o1, none⟩ = some u1 := by
                      refine row_cell n4 ?_
                      rw [f1, List.append_assoc, List.getElem?_append_right (by omega), List.getElem?_append_left (by omega), f2, show i1.toNat * t'.sz + o1 - i1.toNat * t'.sz = o1 by omega]
                      exact g1
                    -- it is the row's header
                    have hu1 : evT a.tmps (.tmp s0) = u1 := by
                      have hav := hrel.av s0
                      have e1 : (SS env noP a.tmps vs w cs bs).env s0 = .con .val [⟨t1, y1, .bor r1 j1 [(i1, o1)]⟩] := by show ovl env noP s0 = _; rw [ovl_lt hs0]; exact hg0
                      have e2 : (SS env noP a.tmps vs w cs bs).tm s0 = a.tmps.getD s0 undef := if_pos (hlen ▸ hs0)
                      rw [e1, e2] at hav
                      obtain ⟨⟨k1, _⟩, _, _, k4⟩ := hav
                      have := k4 0 _ (a.tmps.getD s0 undef) rfl (by rw [k1]; rfl)
                      obtain ⟨_, _, _, k5⟩ := this
                      obtain ⟨ad, ⟨_, lf, u, ⟨o1', _, o3⟩, k6⟩, k7⟩ := k5 _ _ rfl
                      obtain ⟨e', t'', xs', m', B', n', cp', m1, m2, _, _, m5⟩ := k6 rfl
                      have o1' : (ovl env noP r1).leaf? j1 = some lf := o1'
                      rw [ovl_lt hrl, hq, m1] at o1'
                      simp only [Option.some.injEq, Leaf.mk.injEq, Ty.slice.injEq] at o1'
                      obtain ⟨⟨rfl, rfl⟩, _, _⟩ := o1'
                      have o3 : (cs r1)[j1]? = some u := o3
                      rw [n1, m2] at o3
                      simp only [Option.some.injEq, Value.slice.injEq, Addr.mk.injEq, and_true] at o3
                      obtain ⟨rfl, _, _⟩ := o3
                      have k7 : w.cell? ad = some (a.tmps.getD s0 undef) := k7
                      rw [m5, hcell] at k7
                      exact (Option.some.inj k7).symm
                    -- the row itself
                    obtain ⟨v0, cls, c0, c1, p1, p2, p3, p4⟩ := g3
                    obtain rfl : u1 = v0 := by simpa using p1
                    obtain ⟨p4, p5⟩ := p4
                    have hc1 : c1 = [] := El.noB (fun c' x' b' h' => (Rep.flat (S' := fun _ => False) (w' := w) (m' := .ro) hf h').1) p3
                    rw [hc1, List.append_nil, p4] at p2
                    have p3f : ∀ (w2 : World) (m2 : Lvl), El (Rep (fun _ => False) w2 te.ty m2) te.ty.sz cls row [] := fun w2 m2 => by refine El.bare ?_ p3; intro _ _ _ h'; exact (Rep.flat hf h').2
                    -- what is appended
                    obtain ⟨xcells, hxv⟩ := hr.val (some (.slice te.id te.ty)) x vs cs bs hrel
                    rw [hrd, Leaf.as_eq has] at hxv
                    obtain ⟨Sx, hxr⟩ : ∃ S, Rep S w (.slice te.id te.ty) .ro [evT a.tmps x] xs [] := leaf_val hxv (by simpa using hl)
                    obtain ⟨v', w', clx, q1, q2, q3, q4, q5, q6, q7⟩ := append_run hT ht o.type p5 hxr hb
                    -- blocks
                    have hnd : (B :: b1).Nodup := by rw [← n2]; exact hrel.nodup r1 (j1 + 1)
                    rw [f4] at hnd
                    have hmem : ∀ b ∈ B :: b1, c.base ≤ b ∧ b < w.heap.size := fun b hb => hrel.own r1 (j1 + 1) b (by show b ∈ bs r1 (j1 + 1); rw [n2]; exact hb)
                    have hblm : ∀ b, u1.ownBlock = some b → b ∈ bl := fun b hb => by rw [p2]; exact mem_toList.2 hb
                    have hx1m : ∀ b, u1.ownBlock = some b → b ∈ b1 := fun b hb => by rw [f4, g2]; simp [hblm b hb]
                    have hBne : u1.ownBlock ≠ some B := fun hb => (List.nodup_cons.1 hnd).1 (by have := hx1m B hb; rw [f4] at this; exact this)
                    have hrow' : Rep (fun _ => False) w' (.slice te.id te.ty) .dp [v'] (row ++ xs) v'.ownBlock.toList := by
                      refine ⟨v', cls ++ clx, v'.ownBlock.toList, [], rfl, by simp, ?_, rfl, by rw [List.length_append]; exact q2⟩
                      exact El.append (bs := []) (bs' := []) (p3f w' .dp) (by refine El.bare ?_ q3; intro _ _ _ h'; exact (Rep.flat hf h').2)
                    let n : Leaf := ⟨.slice e t', ys, .at_ .dp⟩
                    let env1 := syncPlace r1 j1 n env
                    have hlen1 : env1.length = env.length := syncPlace_length _ _ _ _
                    have hnoP : upd noP env.length AV.undef = noP := by funext k; unfold FP.upd; split <;> rfl
                    -- the two ways
                    have fin2 : ∀ (w1 : World) (bs' : Nat → Nat → List Nat) (own : List Nat), Rel c (SS env1 noP a.tmps vs w1 cs bs') → (∀ k, (∀ q ∈ (ovl env1 noP k).refs, q.1 < env1.length) ∧ (∀ q ∈ (ovl env1 noP k).ptrs, q < env1.length)) → bs' r1 (j1 + 1) = B :: b1 →
                        Below w1.heap.size w1 w' → w1.cell? ⟨B, i1.toNat * t'.sz + o1, none⟩ = some u1 → (∀ b ∈ own, w1.heap.size ≤ b ∧ b < w'.heap.size) → own.Nodup →
                        (own = v'.ownBlock.toList ∨ (own = [] ∧ u1.ownBlock = v'.ownBlock)) → o.wp P a w next Q := by
                      intro w1 bs' own hrel1 hno1 hbs1 hbel1 hcell1 hown1 hown2 hown3
                      have hq0 : ((SS env1 noP a.tmps vs w1 cs bs').env env.length).quiet = true := by show (ovl env1 noP env.length).quiet = true; rw [ovl_ge (by omega)]; rfl
                      have hres := hrel1.setNew hq0 hbel1 (.grow r1 j1 i1 o1 ⟨.slice te.id te.ty, row ++ xs, .at_ .dp⟩) v' [] (fun l => if l = 0 then own else [])
                        (fun l b hb => by
                          split at hb
                          · exact hown1 b hb
                          · simp at hb)
                        (fun l l' b h1 h2 => by
                          split at h1
                          · split at h2
                            · omega
                            · simp at h2
                          · simp at h1)
                        (fun l => by split; exact hown2; exact List.nodup_nil)
                        (by
                          intro s' hkp hpl _
                          have eb : s'.bs env.length = fun l => if l = 0 then own else [] := upd_same _ _ _
                          have ho1 : OwnPlace (SS env1 noP a.tmps vs w1 cs bs') r1 j1 n (.slice (some ⟨B, 0, none⟩) ys.length cp) :=
                            ⟨by show (ovl env1 noP r1).leaf? j1 = _; rw [ovl_lt (by omega)]; exact syncPlace_leaf hq, rfl, n1⟩
                          have hlt1 : ∀ b ∈ B :: b1, b < w1.heap.size := fun b hb => (hrel1.own r1 (j1 + 1) b (by show b ∈ bs' r1 (j1 + 1); rw [hbs1]; exact hb)).2
                          have hw1 : WrRel0 c (SS env1 noP a.tmps vs w1 cs bs') ⟨B, i1.toNat * t'.sz + o1, none⟩ r1 j1 [] i1 o1 :=
                            ⟨⟨.inr (by show B ∈ bs' r1 (j1 + 1); rw [hbs1]; simp), hlt1 B (by simp)⟩, n, _, ho1, fun _ => ⟨e, t', ys, _, B, _, cp, rfl, rfl, hi.1, hin, rfl⟩⟩
                          have hsp := hpl r1 j1 _ _ ho1
                          obtain ⟨k1, k2⟩ := hw1.keep hkp hsp
                          refine ⟨fun k => by rw [eb]; exact if_neg (by omega), ⟨te.id, te.ty, rfl, hf⟩, hrow', _, u1, k2, (World.cell?_of_block k1).trans hcell1, ?_⟩
                          rw [eb]
                          rcases hown3 with h3 | ⟨h3, h4⟩
                          · exact .inl h3
                          · refine .inr ⟨h3, h4, fun b hb => ?_⟩
                            have hbm : b ∈ B :: b1 := List.mem_cons_of_mem _ (hx1m b (h4.trans hb))
                            have hw2 : WrRel0 c (SS env1 noP a.tmps vs w1 cs bs') ⟨b, 0, none⟩ r1 j1 [(i1, o1)] 0 0 :=
                              ⟨⟨.inr (by show b ∈ bs' r1 (j1 + 1); rw [hbs1]; exact hbm), hlt1 b hbm⟩, n, _, ho1, fun h => by simp at h⟩
                            exact (hw2.keep hkp hsp).2)
                      have hRP : RP c env1 a.tmps w' (upd noP env.length (.grow r1 j1 i1 o1 ⟨.slice te.id te.ty, row ++ xs, .at_ .dp⟩)) (upd vs env.length v') := by
                        refine ⟨by rw [hlen1]; exact hlen, _, _, Rel.congr hres (ovl_updP (by omega) _).symm (ovlT_updV (by omega) v').symm, fun k => ?_⟩
                        rw [ovl_updP (by omega)]
                        by_cases hk : k = env.length
                        · subst hk
                          rw [upd_same]
                          exact ⟨fun q hq' => by simp only [AV.refs, List.mem_singleton] at hq'; rw [hq']; show r1 < env1.length; omega, by simp [AV.ptrs]⟩
                        · rw [upd_ne _ _ hk]; exact hno1 k
                      rw [← hlen1] at hRP
                      have hargs' : cl.args = #[.tmp s0, x] := by rw [← Array.toArray_toList (xs := cl.args), hargs]
                      have htys' : cl.argTypes = #[t, t] := by rw [← Array.toArray_toList (xs := cl.argTypes), htys]
                      refine fin hdst (v := v') (w' := w') ?_ (by rw [hlen1]; exact hd) hlen1 hRP (by exact upd_same _ _ _) hK hn
                      rw [← hu1] at q1
                      simp [execOp, hop, resolve, hc, hargs', htys', invoke, builtin, evT_eval, q1]
                    rcases q5 with hwh | hwh
                    · -- the row stays where it is
                      have hbel : Below c.base w w' := ⟨q4.os, q4.tape, q4.output, q4.size, fun k hk => q4.block k (by have := hrel.base; show k < w.heap.size; exact Nat.lt_of_lt_of_le hk this) (fun e => by
                        have := (hmem k (List.mem_cons_of_mem _ (hx1m k e.symm))).1
                        omega)⟩
                      have hother : ∀ b, b < w.heap.size → u1.ownBlock ≠ some b → w'.heap[b]? = w.heap[b]? := fun b hb hne => q4.block b hb (fun e => hne e.symm)
                      have hnd1 := (List.nodup_cons.1 hnd).2
                      have hx0x2 : ∀ b ∈ x0 ++ x2, u1.ownBlock ≠ some b := fun b hb e => by
                        have h1 : b ∈ x1 := by rw [g2]; simp [hblm b e]
                        rw [List.append_assoc] at hnd1
                        rcases List.mem_append.1 hb with h | h
                        · exact (List.nodup_append.1 hnd1).2.2 b h b (List.mem_append_left _ h1) rfl
                        · exact (List.nodup_append.1 (List.nodup_append.1 hnd1).2.1).2.2 b h1 b h rfl
                      have hbAB : ∀ b ∈ bA ++ bB, u1.ownBlock ≠ some b := fun b hb e => by
                        have h1 := hblm b e
                        have h2 : (bA ++ bl ++ bB).Nodup := by
                          rw [← g2]
                          rw [List.append_assoc] at hnd1
                          exact (List.nodup_append.1 (List.nodup_append.1 hnd1).2.1).1
                        rw [List.append_assoc] at h2
                        rcases List.mem_append.1 hb with h | h
                        · exact (List.nodup_append.1 h2).2.2 b h b (List.mem_append_left _ h1) rfl
                        · exact (List.nodup_append.1 (List.nodup_append.1 h2).2.1).2.2 b h1 b h rfl
                      have hlt : ∀ b ∈ x0 ++ x1 ++ x2, b < w.heap.size := fun b hb => (hmem b (List.mem_cons_of_mem _ (by rw [f4]; exact hb))).2
                      obtain ⟨y, y1', y2⟩ := g4 (fun _ => False) w' u1 ⟨.slice te.id te.ty, row, .at_ .dp⟩ bl rfl (by
                        rw [p2]
                        exact ⟨u1, cls, u1.ownBlock.toList, [], rfl, by simp, p3f w' .dp, rfl, q6⟩) (fun _ h => h.elim) (fun b hb => hother b (hlt b (by
                          rw [g2]
                          simp only [List.mem_append] at hb ⊢
                          rcases hb with h | h <;> simp [h])) (hbAB b hb))
                      have hy : y = ys[i1.toNat] := by
                        have := updLeafD_same t' (l := ⟨.slice te.id te.ty, row, .at_ .dp⟩) hleaf rfl HEq.rfl
                        rw [this] at y1'
                        exact (Option.some.inj y1').symm
                      have hch : ch.set o1 u1 = ch := by
                        apply List.ext_getElem?
                        intro k
                        rw [List.getElem?_set]
                        split
                        · rename_i hk
                          subst hk
                          split
                          · exact g1.symm
                          · omega
                        · rfl
                      rw [hy, hch, ← g2] at y2
                      have hel' := f6 (Rep (fun _ => False) w' t' .dp) (fun c' x' b' hb' h' => Rep.move (fun _ h => h.elim) (fun b hb => hother b (hlt b (by
                        have := hb' b hb
                        simp only [List.mem_append] at this ⊢
                        rcases this with h | h <;> simp [h])) (hx0x2 b (hb' b hb))) h') ch ys[i1.toNat] x1 f3 y2
                      rw [← f1, ← f4, List.set_getElem_self] at hel'
                      obtain ⟨bs', k1, k2, k3⟩ := RP.syncAt hlen hrel hno (m := env.length) (fun k _ => .inl rfl) (Nat.le_refl _) hq (by decide) (y := ys) n1 (bd := B :: b1) hbel (fun b hb hb1 _ => hother b hb (fun e => hb1 (by rw [n2]; exact List.mem_cons_of_mem _ (hx1m b e))))
                        (fun b hb => ⟨Nat.lt_of_lt_of_le (hmem b hb).2 q4.size, .inr (.inl (by rw [n2]; exact hb))⟩) (by rw [f4]; exact hnd)
                        ⟨_, cells, [B], b1, rfl, rfl, hel', rfl, own_moved n4 (fun k hk => by
                          have : B = k := by simpa [Value.ownBlock] using hk
                          subst this
                          exact hother B (hmem B (by simp)).2 hBne)⟩
                      rw [hnoP] at k1 k2
                      refine fin2 w' bs' [] k1 k2 k3 (Below.refl _ _) ((World.cell?_of_block (hother B (hmem B (by simp)).2 hBne)).trans hcell) (by simp) List.nodup_nil (.inr ⟨rfl, hwh.symm⟩)
                    · -- a new row
                      have hold : ∀ b, b < w.heap.size → w'.heap[b]? = w.heap[b]? := fun b hb => by
                        by_cases hk : u1.ownBlock = some b
                        · exact q7 hwh b hk
                        · exact q4.block b hb (fun e => hk e.symm)
                      have hvlt : w.heap.size < w'.heap.size := (own_block0 q2 _ hwh).2
                      obtain ⟨bs', k1, k2, k3⟩ := RP.syncAt hlen hrel hno (m := env.length) (fun k _ => .inl rfl) (Nat.le_refl _) hq (by decide) (y := ys) (w' := w) n1 (bd := B :: b1) (Below.refl _ _) (fun b hb hb1 _ => rfl)
                        (fun b hb => ⟨(hmem b hb).2, .inr (.inl (by rw [n2]; exact hb))⟩) (by rw [f4]; exact hnd)
                        ⟨_, cells, [B], b1, rfl, rfl, n3, rfl, n4⟩
                      rw [hnoP] at k1 k2
                      refine fin2 w bs' [w.heap.size] k1 k2 k3 ⟨q4.os, q4.tape, q4.output, q4.size, hold⟩ hcell (fun b hb => by rw [List.mem_singleton.1 hb]; exact ⟨Nat.le_refl _, hvlt⟩) (by simp) (.inl (by rw [hwh]; rfl))
                  · simp at hs
                · simp at hs
              · simp at hK
            · simp at hK
          · simp at hK
        · simp at hK
      · simp at hK
    · simp at hK
  · simp at hK
end
end Go.FP

/- What append made of a nested row is stored where the row stands. Conditions: none. -/
namespace Go.FP
open Go.RowKit
set_option linter.unusedVariables false
set_option linter.unusedSimpArgs false

theorem updLeafD_leafD : ∀ (t : Ty) {x y : t.D} {o : Nat} {l : Leaf}, updLeafD t x o l = some y → ∃ q, leafD t x o = some q ∧ l.t = q.1
  | .int k, x, y, o, l, h => by
    simp only [updLeafD] at h
    split at h
    · rename_i ho
      have := Leaf.as_eq h
      exact ⟨⟨.int k, x⟩, by simp [leafD, ho], by rw [this]⟩
    · simp at h
  | .bool, x, y, o, l, h => by
    simp only [updLeafD] at h
    split at h
    · rename_i ho
      have := Leaf.as_eq h
      exact ⟨⟨.bool, x⟩, by simp [leafD, ho], by rw [this]⟩
    · simp at h
  | .str, x, y, o, l, h => by
    simp only [updLeafD] at h
    split at h
    · rename_i ho
      have := Leaf.as_eq h
      exact ⟨⟨.str, x⟩, by simp [leafD, ho], by rw [this]⟩
    · simp at h
  | .slice e t, x, y, o, l, h => by
    simp only [updLeafD] at h
    split at h
    · rename_i ho
      have := Leaf.as_eq h
      exact ⟨⟨.slice e t, x⟩, by simp [leafD, ho], by rw [this]⟩
    · simp at h
  | .unit, x, y, o, l, h => by simp [updLeafD] at h
  | .pair a b, x, y, o, l, h => by
    simp only [updLeafD] at h
    split at h
    · rename_i ho
      split at h
      · rename_i z hz
        obtain ⟨q, h1, h2⟩ := updLeafD_leafD a hz
        exact ⟨q, by simp only [leafD]; rw [if_pos ho]; exact h1, h2⟩
      · simp at h
    · rename_i ho
      split at h
      · rename_i z hz
        obtain ⟨q, h1, h2⟩ := updLeafD_leafD b hz
        exact ⟨q, by simp only [leafD]; rw [if_neg ho]; exact h1, h2⟩
      · simp at h

theorem leaf_cells {S : Nat → Prop} {w : World} {lv : Lvl} {v : Value} {bs : List Nat} {l : Leaf} {e : TypeId} {t : Ty} (hl : l.t = .slice e t) (h : Rep S w l.t lv [v] l.x bs) : v.cells = #[v] := by
  obtain ⟨lt, lx, lm⟩ := l
  simp only at hl
  subst hl
  obtain ⟨v0, _, _, _, p1, _, _, p4⟩ := h
  obtain ⟨A, cc, e3, _⟩ := RowRep.slice p4
  have : v = v0 := by simpa using p1
  rw [this, e3]; rfl

section
variable {P : Program} {o : Oper} {a : Act} {w : World} {R : Type} {K : Env → Option R} {r0 : R} {next : Act → World → Prop} {Q : Exit → Act → World → Prop} {c : Cx} {d : Nat} {T : Tab} {env : Env}

theorem op_storeGrow (hT : TabOk P T) {t : TypeId} {x v : Operand} {s r j oo : Nat} {i : Int} {l : Leaf} (hop : o.op = .store t x v) (hdst : o.dst = none) (hr : RE c env a.tmps w) (hg : growOf env v = some (s, r, j, i, oo, l)) (ht : T.ty t = some l.t)
    (hK : storeGrow s r j i oo l x env K = some r0) (hn : Next c a K r0 env.length next) : o.wp P a w next Q := by
  unfold growOf at hg
  split at hg
  · rename_i s1
    split at hg
    · rename_i r1 j1 i1 o1 l1 hgs
      simp only [Option.some.injEq, Prod.mk.injEq] at hg
      obtain ⟨rfl, rfl, rfl, rfl, rfl, rfl⟩ := hg
      unfold storeGrow at hK
      split at hK
      · rename_i le r2 j2 i2 o2 hx
        split at hK
        · rename_i he
          obtain ⟨rfl, rfl, rfl⟩ := he
          split at hK
          · rename_i e t' ys lv hq
            split at hK
            · rename_i hlv
              subst hlv
              have hi : i2 = i1 ∧ 0 ≤ i2 ∧ i2 < (ys.length : Int) := by
                apply Decidable.byContradiction
                intro h'
                have : (decide (i2 = i1) && (decide (0 ≤ i2) && decide (i2 < (ys.length : Int)))) = false := by
                  rw [Bool.and_eq_false_iff, Bool.and_eq_false_iff, decide_eq_false_iff_not, decide_eq_false_iff_not, decide_eq_false_iff_not]; omega
                rw [this] at hK; simp at hK
              rw [decide_eq_true hi.1, decide_eq_true hi.2.1, decide_eq_true hi.2.2] at hK
              obtain ⟨rfl, hi0, hi1⟩ := hi
              have hin : i2.toNat < ys.length := by omega
              have hgetD : ys.getD i2.toNat t'.dflt = ys[i2.toNat] := by simp [hin]
              rw [hgetD] at hK
              replace hK : (match updLeafD t' ys[i2.toNat] o2 l1 with
                | some y => K (syncPlace r2 j2 ⟨.slice e t', ys.set i2.toNat y, .at_ .dp⟩ (put env s1 .undef))
                | none => none) = some r0 := hK
              split at hK
              · rename_i y hy
                obtain ⟨vs, hlen, cs, bs, hrel, hno⟩ := hr
                have hr : RE c env a.tmps w := ⟨vs, hlen, cs, bs, hrel, hno⟩
                have hsl : s1 < env.length := by
                  apply Decidable.byContradiction
                  intro hn'
                  rw [get_ge env s1 (Nat.le_of_not_lt hn')] at hgs
                  simp at hgs
                have hrl : r2 < env.length := leaf_lt hq
                have hrs : r2 ≠ s1 := fun h => by subst h; rw [hgs] at hq; simp [AV.leaf?] at hq
                let N := env.length
                -- what grew
                have es : (SS env noP a.tmps vs w cs bs).env s1 = .grow r2 j2 i2 o2 l1 := by show ovl env noP s1 = _; rw [ovl_lt hsl]; exact hgs
                have et : (SS env noP a.tmps vs w cs bs).tm s1 = a.tmps.getD s1 undef := if_pos (hlen ▸ hsl)
                have hgr := hrel.av s1
                rw [es, et] at hgr
                obtain ⟨h1, ⟨e1, t1, hl1, hf⟩, hv, ad, u2, hwr, hcu, halt⟩ := hgr
                have hcu : w.cell? ad = some u2 := hcu
                let v' := a.tmps.getD s1 undef
                have hv : Rep (fun _ => False) w l1.t .dp [v'] l1.x v'.ownBlock.toList := hv
                have halt : bs s1 0 = v'.ownBlock.toList ∨ (bs s1 0 = [] ∧ u2.ownBlock = v'.ownBlock ∧ ∀ b, v'.ownBlock = some b → WrRel0 c (SS env noP a.tmps vs w cs bs) ⟨b, 0, none⟩ r2 j2 [(i2, o2)] 0 0) := halt
                obtain ⟨B, cp, cells, b1, n1, n2, n3, n4⟩ := place_near hrel hq (by omega)
                -- both addresses are the one
                have spot : ∀ ad', WrRel0 c (SS env noP a.tmps vs w cs bs) ad' r2 j2 [] i2 o2 → ad' = ⟨B, i2.toNat * t'.sz + o2, none⟩ := by
                  intro ad' hw
                  obtain ⟨_, lf, u, ⟨k1, _, k3⟩, k4⟩ := hw
                  obtain ⟨e', t'', xs', m', B', n', cp', m1, m2, _, _, m5⟩ := k4 rfl
                  have k1 : (ovl env noP r2).leaf? j2 = some lf := k1
                  rw [ovl_lt hrl, hq, m1] at k1
                  simp only [Option.some.injEq, Leaf.mk.injEq, Ty.slice.injEq] at k1
                  obtain ⟨⟨rfl, rfl⟩, _, _⟩ := k1
                  have k3 : (cs r2)[j2]? = some u := k3
                  rw [n1, m2] at k3
                  simp only [Option.some.injEq, Value.slice.injEq, Addr.mk.injEq, and_true] at k3
                  obtain ⟨rfl, _, _⟩ := k3
                  exact m5
                have hadd := spot ad hwr
                subst hadd
                have hxv : evT a.tmps x = .pointer (some ⟨B, i2.toNat * t'.sz + o2, none⟩) := by
                  obtain ⟨cells', hv'⟩ := rd_val hlen hrel none x
                  rw [hx] at hv'
                  obtain ⟨ad', ea, _, hw⟩ := hv'
                  rw [ea, spot ad' hw]
                obtain ⟨pre, ch, post, x0, x1, x2, f1, f2, f3, f4, f5, f6⟩ := El.at2 i2.toNat hin n3
                have f5 : Rep (fun _ => False) w t' .dp ch ys[i2.toNat] x1 := f5
                obtain ⟨q, hleaf, hlq⟩ := updLeafD_leafD t' hy
                obtain ⟨u1, bA, bl, bB, g1, g2, g3, g4⟩ := Rep.leafAt t' f5 hleaf
                have hoo : o2 < t'.sz := by
                  have := (List.getElem?_eq_some_iff.1 g1).1
                  omega
                have hcell : w.cell? ⟨B, i2.toNat * t'.sz + o2, none⟩ = some u1 := by
                  refine row_cell n4 ?_
                  rw [f1, List.append_assoc, List.getElem?_append_right (by omega), List.getElem?_append_left (by omega), f2, show i2.toNat * t'.sz + o2 - i2.toNat * t'.sz = o2 by omega]
                  exact g1
                have hu12 : u2 = u1 := by rw [hcell] at hcu; exact (Option.some.inj hcu).symm
                subst hu12
                -- the old row's blocks
                have hbl : bl = u2.ownBlock.toList := by
                  obtain ⟨q1, q2⟩ := q
                  simp only at hlq
                  rw [hl1] at hlq
                  subst hlq
                  obtain ⟨v0, cls, c0, c1, p1, p2, p3, p4, _⟩ := g3
                  obtain rfl : u2 = v0 := by simpa using p1
                  have hc1 : c1 = [] := El.noB (fun c' x' b' h' => (Rep.flat (S' := fun _ => False) (w' := w) (m' := .ro) hf h').1) p3
                  rw [p2, hc1, List.append_nil, p4]
                -- blocks
                have hnd : (B :: b1).Nodup := by rw [← n2]; exact hrel.nodup r2 (j2 + 1)
                have hmem : ∀ b ∈ B :: b1, c.base ≤ b ∧ b < w.heap.size := fun b hb => hrel.own r2 (j2 + 1) b (by show b ∈ bs r2 (j2 + 1); rw [n2]; exact hb)
                let bl' := v'.ownBlock.toList
                have hbl'd : ∀ b ∈ bl', (b ∈ bs s1 0 ∧ b ∉ B :: b1) ∨ (bl' = bl) := by
                  intro b hb
                  rcases halt with h | ⟨_, h, _⟩
                  · left
                    have hb' : b ∈ bs s1 0 := by rw [h]; exact hb
                    exact ⟨hb', fun hm => hrs (hrel.disj r2 (j2 + 1) s1 0 b (by show b ∈ bs r2 (j2 + 1); rw [n2]; exact hm) hb').1⟩
                  · right; rw [hbl, h]
                have hblm : ∀ b ∈ bl, b ∈ b1 := fun b hb => by rw [f4, g2]; simp [hb]
                have hBbl' : B ∉ bl' := fun hb => by
                  rcases hbl'd B hb with ⟨_, h⟩ | h
                  · exact h (by simp)
                  · exact (List.nodup_cons.1 hnd).1 (hblm B (by rw [← h]; exact hb))
                have hlt' : ∀ b ∈ bl', b < w.heap.size := fun b hb => Rep.lt hv b hb
                let bd := B :: (x0 ++ (bA ++ bl' ++ bB) ++ x2)
                have hbdm : ∀ b ∈ bd, b ∈ B :: b1 ∨ b ∈ bs s1 0 := by
                  intro b hb
                  rcases List.mem_cons.1 hb with rfl | hb
                  · exact .inl (by simp)
                  · rw [f4, g2]
                    simp only [List.mem_append, List.mem_cons] at hb ⊢
                    rcases hb with (hb | (hb | hb) | hb) | hb
                    · simp [hb]
                    · simp [hb]
                    · rcases hbl'd b hb with ⟨h, _⟩ | h
                      · exact .inr h
                      · rw [h] at hb; simp [hb]
                    · simp [hb]
                    · simp [hb]
                have hbdnd : bd.Nodup := by
                  rcases halt with h | ⟨_, h, _⟩
                  · have k1 : bl'.Nodup := by have := hrel.nodup s1 0; have e : (SS env noP a.tmps vs w cs bs).bs s1 0 = bl' := h; rw [← e]; exact this
                    have k2 : ∀ b ∈ bl', b ∉ B :: b1 := fun b hb hm => hrs (hrel.disj r2 (j2 + 1) s1 0 b (by show b ∈ bs r2 (j2 + 1); rw [n2]; exact hm) (by show b ∈ bs s1 0; rw [h]; exact hb)).1
                    have hnd' : (B :: (x0 ++ (bA ++ bl ++ bB) ++ x2)).Nodup := by rw [← g2, ← f4]; exact hnd
                    have k3 : ∀ b ∈ bl', b ≠ B ∧ b ∉ x0 ∧ b ∉ bA ∧ b ∉ bB ∧ b ∉ x2 := fun b hb => by
                      have := k2 b hb
                      rw [f4, g2] at this
                      simp only [List.mem_cons, List.mem_append, not_or] at this
                      exact ⟨this.1, this.2.1.1, this.2.1.2.1.1, this.2.1.2.2, this.2.2⟩
                    have p0 : (bl' ++ (B :: (x0 ++ (bA ++ bB) ++ x2))).Nodup := by
                      refine List.nodup_append.2 ⟨k1, hnd'.sublist ?_, fun b hb b' hb' e => ?_⟩
                      · refine List.Sublist.cons_cons _ (List.Sublist.append (List.Sublist.append (List.Sublist.refl _) (List.Sublist.append ?_ (List.Sublist.refl _))) (List.Sublist.refl _))
                        exact List.sublist_append_left _ _
                      · subst e
                        obtain ⟨a1, a2, a3, a4, a5⟩ := k3 b hb
                        simp only [List.mem_cons, List.mem_append] at hb'
                        rcases hb' with h | (h | h | h) | h
                        · exact a1 h
                        · exact a2 h
                        · exact a3 h
                        · exact a4 h
                        · exact a5 h
                    refine (List.Perm.nodup_iff ?_).1 p0
                    show (bl' ++ B :: (x0 ++ (bA ++ bB) ++ x2)).Perm (B :: (x0 ++ (bA ++ bl' ++ bB) ++ x2))
                    refine (List.perm_middle).trans (List.Perm.cons _ ?_)
                    simp only [List.append_assoc]
                    refine (List.perm_append_comm_assoc _ _ _).trans (List.Perm.append_left _ ?_)
                    exact List.perm_append_comm_assoc _ _ _
                  · have : bl' = bl := by rw [hbl, h]
                    show (B :: (x0 ++ (bA ++ bl' ++ bB) ++ x2)).Nodup
                    rw [this, ← g2, ← f4]
                    exact hnd
                -- the block
                obtain ⟨cur, hgB, hcm, hcs, htk, hnc⟩ : ∃ cur, w.heap[B]? = some (.cells cur e (0, 0)) ∧ cp ≤ maxLen ∧ cur.size = cp * t'.sz ∧ cur.toList.take (ys.length * t'.sz) = cells ∧ ys.length ≤ cp := by
                  rcases n4.2 with ⟨h', _⟩ | ⟨g', cap', cur, h', _, hg, hnc, hcm, hcs, htk⟩
                  · simp at h'
                  · simp only [Value.slice.injEq, Option.some.injEq, Addr.mk.injEq, and_true, true_and] at h'
                    obtain ⟨rfl, rfl⟩ := h'
                    exact ⟨cur, hg, hcm, hcs, htk, hnc⟩
                let off := i2.toNat * t'.sz + o2
                let cur' : Array Value := (cur.toList.take off ++ [v'] ++ cur.toList.drop (off + 1)).toArray
                let w' := w.setRow B cur'
                have hother : ∀ b, b ≠ B → w'.heap[b]? = w.heap[b]? := fun b hb => setRow_other w B b _ hb
                have hsame : w'.heap[B]? = some (.cells cur' e (0, 0)) := setRow_heap w B _ _ e (0, 0) hgB
                have hsz : w'.heap.size = w.heap.size := setRow_size _ _ _
                have hcl : cells.length = ys.length * t'.sz := n3.len
                have hoffl : off + 1 ≤ cells.length := by
                  rw [f1]; simp only [List.length_append, off]; omega
                have hoff : off + 1 ≤ cur.toList.length := by
                  have : cells.length ≤ cur.toList.length := by rw [← htk, List.length_take]; exact Nat.min_le_right _ _
                  omega
                have hb1B : ∀ b ∈ b1, b ≠ B := fun b hb e => (List.nodup_cons.1 hnd).1 (e ▸ hb)
                have hv' : Rep (fun _ => False) w' l1.t .dp [v'] l1.x bl' := Rep.move (fun _ h => h.elim) (fun b hb => hother b (fun e => hBbl' (e ▸ hb))) hv
                obtain ⟨y', y1, y2⟩ := g4 (fun _ => False) w' v' l1 bl' hlq hv' (fun _ h => h.elim) (fun b hb => hother b (hb1B b (by
                  rw [f4, g2]
                  simp only [List.mem_append] at hb ⊢
                  rcases hb with h | h <;> simp [h])))
                rw [hy] at y1
                obtain rfl := Option.some.inj y1
                have hel' := f6 (Rep (fun _ => False) w' t' .dp) (fun c' x' b' hb' h' => Rep.move (fun _ h => h.elim) (fun b hb => hother b (hb1B b (by
                  rw [f4]
                  have := hb' b hb
                  simp only [List.mem_append] at this ⊢
                  rcases this with h | h <;> simp [h]))) h') (ch.set o2 v') y (bA ++ bl' ++ bB) (by rw [List.length_set]; exact f3) y2
                have hcells : pre ++ ch.set o2 v' ++ post = cells.take off ++ [v'] ++ cells.drop (off + 1) := by
                  have hlt : o2 < ch.length := by omega
                  rw [List.set_eq_take_append_cons_drop, if_pos hlt]
                  have := set_mid pre ch post [v'] o2 (by simp; omega)
                  simp only [List.length_singleton] at this
                  rw [show ch.take o2 ++ v' :: ch.drop (o2 + 1) = ch.take o2 ++ [v'] ++ ch.drop (o2 + 1) by simp, this, f1, f2]
                rw [hcells] at hel'
                -- s1 goes on its way
                have hq0 : ((SS env noP a.tmps vs w cs bs).env N).quiet = true := by show (ovl env noP N).quiet = true; rw [ovl_ge (Nat.le_refl _)]; rfl
                have hmv := hrel.move (s0 := s1) (d := N) (Nat.ne_of_lt hsl) hq0 (fun p => by
                  obtain ⟨k1, k2⟩ := (hrel.av p).refs_own
                  refine ⟨fun q hq' e => ?_, fun q hq' e => ?_⟩
                  · obtain ⟨lf, u, o1, _⟩ := k1 q hq'
                    rw [e, es] at o1
                    simp [AV.leaf?] at o1
                  · obtain ⟨off, vv, e', ls, B', o1, _⟩ := k2 q hq'
                    rw [e, es] at o1
                    simp at o1)
                rw [es, et] at hmv
                let env1 := put env s1 .undef
                have hlen1 : env1.length = env.length := put_length _ _ _
                have hrelP : Rel c (SS env1 (upd noP N (.grow r2 j2 i2 o2 l1)) a.tmps (upd vs N v') w (upd cs N (cs s1)) (upd (upd bs s1 (fun _ => [])) N (bs s1))) :=
                  Rel.congr hmv (by rw [ovl_updP (Nat.le_of_eq hlen1), ovl_put hsl]) (ovlT_updV (Nat.le_of_eq hlen.symm) v').symm
                have hnoP1 : ∀ k, (∀ q ∈ (ovl env1 (upd noP N (.grow r2 j2 i2 o2 l1)) k).refs, q.1 < env1.length) ∧ (∀ q ∈ (ovl env1 (upd noP N (.grow r2 j2 i2 o2 l1)) k).ptrs, q < env1.length) := by
                  intro k
                  rw [ovl_updP (Nat.le_of_eq hlen1), ovl_put hsl, hlen1]
                  by_cases hk : k = N
                  · subst hk
                    rw [upd_same]
                    exact ⟨fun q hq' => by simp only [AV.refs, List.mem_singleton] at hq'; rw [hq']; exact hrl, by simp [AV.ptrs]⟩
                  · rw [upd_ne _ _ hk]
                    by_cases hk2 : k = s1
                    · subst hk2; rw [upd_same]; exact ⟨by simp [AV.refs], by simp [AV.ptrs]⟩
                    · rw [upd_ne _ _ hk2]; exact hno k
                have hq1 : (get env1 r2).leaf? j2 = some ⟨.slice e t', ys, .at_ .dp⟩ := by
                  show (get (put env s1 .undef) r2).leaf? j2 = _
                  rw [get_put_lt hsl, upd_ne _ _ hrs]; exact hq
                have hrN : r2 ≠ N := Nat.ne_of_lt hrl
                have ebr : upd (upd bs s1 (fun _ => [])) N (bs s1) r2 = bs r2 := by rw [upd_ne _ _ hrN, upd_ne _ _ hrs]
                have ebN : upd (upd bs s1 (fun _ => [])) N (bs s1) N = bs s1 := upd_same _ _ _
                obtain ⟨bs', k1, k2, _⟩ := RP.syncAt (by rw [hlen1]; exact hlen) hrelP hnoP1 (m := N) (fun k hk => .inl (by rw [upd_ne _ _ hk]; rfl)) (Nat.le_of_eq hlen1) hq1 (by decide) (y := ys.set i2.toNat y) (w' := w') (u := .slice (some ⟨B, 0, none⟩) ys.length cp) (by rw [upd_ne _ _ hrN]; exact n1) (bd := bd)
                  (below_setRow (Below.refl _ _) (hmem B (by simp)).1 _) (fun b hb hb1 _ => hother b (fun e => hb1 (by rw [ebr, n2, e]; simp)))
                  (fun b hb => ⟨by
                    rw [hsz]
                    rcases hbdm b hb with h | h
                    · exact (hmem b h).2
                    · exact (hrel.own s1 0 b h).2, by
                    rcases hbdm b hb with h | h
                    · exact .inr (.inl (by rw [ebr, n2]; exact h))
                    · exact .inr (.inr ⟨0, by rw [ebN]; exact h⟩)⟩) hbdnd
                  ⟨.slice (some ⟨B, 0, none⟩) ys.length cp, cells.take off ++ [v'] ++ cells.drop (off + 1), [B], x0 ++ (bA ++ bl' ++ bB) ++ x2, rfl, rfl, hel', rfl, by
                    rw [List.length_set]
                    refine ⟨?_, .inr ⟨B, cp, cur', rfl, Nat.zero_le _, hsame, hnc, hcm, ?_, ?_⟩⟩
                    · simp only [List.length_append, List.length_take, List.length_drop, List.length_singleton]; omega
                    · rw [← hcs]
                      simp only [cur', List.size_toArray, List.length_append, List.length_take, List.length_drop, List.length_singleton, Array.length_toList] at hoff ⊢
                      omega
                    · rw [← htk]
                      exact take_mid _ [v'] _ _ (by rw [hcl] at hoffl; simpa using hoffl) (by rw [← hcl, ← htk, List.length_take]; exact Nat.min_le_right _ _)⟩
                refine unit_fin hdst (w' := w') ?_ (by rw [syncPlace_length]; exact hlen1) ⟨by rw [syncPlace_length, hlen1]; exact hlen, _, _, k1, k2⟩ (fun k => ?_) hK hn
                · have hsize := TabOk.sizeOf hT ht
                  rw [hl1] at hsize
                  have hv1 : v'.oneCell' = true := Rep.one hv v' (by simp)
                  have hvc : v'.cells = #[v'] := leaf_cells hl1 hv
                  have hst := run_storeCells_at P B off e [v'] 0 cur w hgB (by simpa using hoff) (by simpa using hv1)
                  rw [Nat.add_zero] at hst
                  have hev : evT a.tmps (.tmp s1) = v' := rfl
                  simp [execOp, hop, evT_eval, hxv, hev, Instr.storeAt, Instr.sureAddr, storeVar, hsize, hvc, Ty.sz]
                  rw [show Sem.run P (storeCells { block := B, off := i2.toNat * t'.sz + o2 } [v']) w = .ok () w' from hst]
                  rfl
                · by_cases hk : k = N
                  · subst hk; rw [upd_same]
                  · rw [upd_ne _ _ hk, upd_ne _ _ hk]; rfl
              · simp at hK
            · simp at hK
          · simp at hK
        · simp at hK
      · simp at hK
    · simp at hg
  · simp at hg
end
end Go.FP

/- One operation. Conditions: none. -/
namespace Go.FP
open Go.RowKit
set_option linter.unusedVariables false
set_option linter.unusedSimpArgs false

section
variable {P : Program} {o : Oper} {a : Act} {w : World} {R : Type} {K : Env → Option R} {r : R} {next : Act → World → Prop} {Q : Exit → Act → World → Prop} {c : Cx} {d : Nat} {T : Tab} {env : Env} {sig : FuncId → Option Sig} {caps : FuncId → List Ty} {orc : Orc}

theorem op_call1 (hO : OrcOk P sig orc) {cl : Call} {f : FuncId} {extra : List AV} {ex : List Value} (hop : o.op = .call cl) (hdst : o.dst = some d) (hr : RE c env a.tmps w) (hd : d < env.length)
    (hrun : Enterable P f → (execOp a.eval o).run P w = .ok (.enter f (cl.args.map (evT a.tmps) ++ ex.toArray)) w) (hex : ∀ vs cs bs, Rel c (SS env noP a.tmps vs w cs bs) → ValCs c (SS env noP a.tmps vs w cs bs) extra ex) (hexr : ∀ v ∈ extra, (∀ q ∈ v.refs, q.1 < env.length))
    (hK : call1 sig caps orc (some d) f cl.args.toList extra env K = some r) (hn : Next c a K r env.length next) : o.wp P a w next Q := by
  unfold call1 at hK
  split at hK
  · simp at hK
  · rename_i sg hsg
    split at hK
    · rename_i hm
      simp only at hK
      split at hK
      · rename_i hc
        split at hK
        · simp at hK
        · rename_i rvs hrv
          split at hK
          · simp at hK
          rename_i q hq
          exact op_call hO hop hdst hr hd hrun hex hexr hsg hm hc.1 hc.2.1 hc.2.2 hrv hq hK hn
      · simp at hK
    · simp at hK

theorem evVal_sound (hT : TabOk P T) (hO : OrcOk P sig orc) (hdst : o.dst = some d) (hr : RE c env a.tmps w) (hd : d < env.length) (hK : evVal T sig caps orc d o env K = some r) (hn : Next c a K r env.length next) : o.wp P a w next Q := by
  cases hop : o.op with
  | move x =>
    simp only [evVal, hop] at hK
    exact op_move hop hdst hr hd hK hn
  | assign x =>
    simp only [evVal, hop] at hK
    split at hK
    · exact op_assignB hop hdst hr hd hK hn
    split at hK
    · rename_i env' v ht
      exact op_assign hop hdst hr hd ht hK hn
    · simp at hK
  | pick cc x y =>
    simp only [evVal, hop] at hK
    split at hK
    · rename_i t hb
      exact op_pick hop hdst hr hd hb hK hn
    · simp at hK
  | alloc e =>
    simp only [evVal, hop] at hK
    split at hK
    · rename_i τ he
      exact op_alloc hT hop hdst hr hd he hK hn
    · simp at hK
  | box e x =>
    simp only [evVal, hop] at hK
    split at hK
    · rename_i τ he
      split at hK
      · rename_i env' ls ht
        exact op_box hT hop hdst hr hd he ht hK hn
      · simp at hK
    · simp at hK
  | build t parts =>
    simp only [evVal, hop] at hK
    split at hK
    · rename_i τ he
      split at hK
      · rename_i ha
        split at hK
        · rename_i env' ls hb
          exact op_build hT hop hdst hr hd he ha hb hK hn
        · simp at hK
      · simp at hK
    · simp at hK
  | buildSlice t n parts =>
    simp only [evVal, hop] at hK
    split at hK
    · rename_i te he
      split at hK
      · rename_i hc
        split at hK
        · rename_i env' xs dp hb
          exact op_buildSlice hT hop hdst hr hd he hc.1 hc.2.1 hc.2.2 hb hK hn
        · simp at hK
      · simp at hK
    · simp at hK
  | load t x =>
    simp only [evVal, hop] at hK
    split at hK
    · rename_i τ he
      split at hK
      · rename_i q off hx
        split at hK
        · rename_i e ls hb
          split at hK
          · rename_i hty
            exact op_load_path hT hop hdst hr hd he hx hb hty hK hn
          · simp at hK
        · simp at hK
      · rename_i ls wr hx
        split at hK
        · rename_i hty
          exact op_load_eptr hT hop hdst hr hd he hx hty hK hn
        · simp at hK
      · simp at hK
    · simp at hK
  | fieldAddr s x f =>
    simp only [evVal, hop] at hK
    split at hK
    · rename_i off τ hf
      split at hK
      · rename_i q o' hx
        exact op_fieldAddr_path hT hop hdst hr hd hf hx hK hn
      · rename_i ls wr hx
        cases wr with
        | none => exact op_fieldAddr_eptr hT hop hdst hr hd hf hx hK hn
        | some z => obtain ⟨_, _, _, _, _⟩ := z; exact op_fieldAddr_eptr hT hop hdst hr hd hf hx hK hn
      · simp at hK
    · simp at hK
  | field s x f =>
    simp only [evVal, hop] at hK
    split at hK
    · rename_i off τ hf
      split at hK
      · rename_i ls hx
        split at hK
        · rename_i hty
          exact op_field hT hop hdst hr hd hf hx hty hK hn
        · simp at hK
      · simp at hK
    · simp at hK
  | indexAddr t x i =>
    simp only [evVal, hop] at hK
    split at hK
    · rename_i te he
      split at hK
      · rename_i lx n hx hi
        split at hK
        · rename_i xs hxs
          split at hK
          · simp at hK
          · rename_i hl
            obtain ⟨h0, hK⟩ := bif_some hK
            simp only [Bool.and_eq_true, decide_eq_true_eq] at h0
            exact op_indexAddr hT hop hdst hr hd he hx hi hxs (by simpa using hl) h0.1 h0.2 hK hn
        · simp at hK
      · simp at hK
    · simp at hK
  | index t x i =>
    simp only [evVal, hop] at hK
    split at hK
    · rename_i s k n ht hs hi
      exact op_index hT hop hdst hr hd ht hs hi hK hn
    · simp at hK
  | extract x i =>
    simp only [evVal, hop] at hK
    split at hK
    · rename_i s hx
      split at hK
      · rename_i sh ls hs
        split at hK
        · rename_i off agg n ho
          split at hK
          · rename_i hlive
            split at hK
            · split at hK
              · rename_i hbare
                exact op_extract_own hop hdst hr hd hs ho hlive hbare hK hn
              · simp at hK
            · rename_i hno
              exact op_extract_ro hop hdst hr hd hs ho (by simpa using hno) hK hn
          · simp at hK
        · simp at hK
      · simp at hK
    · simp at hK
  | binOp op t x y t' =>
    simp only [evVal, hop] at hK
    exact op_binOp hT hop hdst hr hd hK hn
  | unOp op t x =>
    simp only [evVal, hop] at hK
    exact op_unOp hop hdst hr hd hK hn
  | convert s dt x =>
    simp only [evVal, hop] at hK
    split at hK
    · rename_i k k' k2 n hs ht hi
      exact op_convert hT hop hdst hr hd hs ht hi hK hn
    · simp at hK
  | slice t x lo hi mx =>
    simp only [evVal, hop] at hK
    split at hK
    · simp at hK
    · split at hK
      · rename_i lo' hi' hlo hhi
        split at hK
        · rename_i s hs
          split at hK
          · rename_i ht
            obtain ⟨h0, hK⟩ := bif_some hK
            simp only [Bool.and_eq_true, decide_eq_true_eq] at h0
            exact op_slice_str hT hop hdst hr hd ht hs hlo hhi h0.1 h0.2.1 h0.2.2 hK hn
          · simp at hK
        · split at hK
          · rename_i te he
            split at hK
            · rename_i lx hx
              split at hK
              · rename_i xs hxs
                split at hK
                · simp at hK
                · rename_i hl
                  obtain ⟨h0, hK⟩ := bif_some hK
                  simp only [Bool.and_eq_true, decide_eq_true_eq] at h0
                  exact op_slice hT hop hdst hr hd he hx hxs (by simpa using hl) hlo hhi h0.1 h0.2.1 h0.2.2 hK hn
              · simp at hK
            · simp at hK
          · simp at hK
      · simp at hK
  | makeSlice t l cc =>
    simp only [evVal, hop] at hK
    split at hK
    · rename_i te n m he hl hc
      obtain ⟨h0, hK⟩ := bif_some hK
      simp only [Bool.and_eq_true, decide_eq_true_eq] at h0
      exact op_makeSlice hT hop hdst hr hd he hl hc h0.1 h0.2.1 h0.2.2 hK hn
    · simp at hK
  | makeFunc fn first captured =>
    cases fn with
    | func f =>
      simp only [evVal, hop] at hK
      split at hK
      · rename_i hf
        split at hK
        · rename_i cs hc
          exact op_makeFunc hop hdst hr hd hf hc hK hn
        · simp at hK
      · simp at hK
    | _ => simp [evVal, hop] at hK
  | nilCheck x =>
    simp only [evVal, hop] at hK
    split at hK
    · rename_i q off hx
      exact op_nilCheck_path hop hdst hr hd hx hK hn
    · rename_i f cs hx
      exact op_nilCheck_clo hop hdst hr hd hx hK hn
    · rename_i f xs hx
      exact op_nilCheck_cloR hop hdst hr hd hx hK hn
    · rename_i ls wr hx
      exact op_nilCheck_eptr hop hdst hr hd hx hK hn
    · simp at hK
  | call cl =>
    simp only [evVal, hop] at hK
    split at hK
    · rename_i f hc
      refine op_call1 hO (extra := []) (ex := []) hop hdst hr hd (fun he => ?_) (fun _ _ _ _ => rfl) (by simp) hK hn
      simp [execOp, hop, resolve, hc, Deferred.ofValue, invoke, evT_eval, evT, run_callFunc he]
    · rename_i t hc
      split at hK
      · rename_i f cs ht
        have htl : t < env.length := by
          apply Decidable.byContradiction
          intro h
          rw [get_ge env t (Nat.le_of_not_lt h)] at ht
          cases ht
        have hval : ∀ vs cs' bs, Rel c (SS env noP a.tmps vs w cs' bs) → ∃ us, evT a.tmps (.tmp t) = .func (.func f) #[] us.toArray ∧ PtrRels (SS env noP a.tmps vs w cs' bs) cs us := by
          intro vs cs' bs hrel
          have hav := hrel.av t
          have e1 : (SS env noP a.tmps vs w cs' bs).env t = .clo f cs := by show ovl env noP t = _; rw [ovl_lt htl]; exact ht
          have e2 : (SS env noP a.tmps vs w cs' bs).tm t = evT a.tmps (.tmp t) := if_pos (hr.choose_spec.len ▸ htl)
          rw [e1, e2] at hav
          exact hav.2
        obtain ⟨vs, hlen, cs', bs, hrel, hno⟩ := id hr
        obtain ⟨us, e1, e2⟩ := hval vs cs' bs hrel
        refine op_call1 hO (ex := us) hop hdst hr hd (fun he => ?_) (fun vs2 cs2 bs2 hrel2 => ?_) (fun v hv => ?_) hK hn
        · simp [execOp, hop, resolve, hc, evT_eval, e1, Deferred.ofValue, invoke, run_callFunc he]
        · obtain ⟨us', f1, f2⟩ := hval vs2 cs2 bs2 hrel2
          rw [e1] at f1
          have : us = us' := by simpa using f1
          subst this
          have go : ∀ {cs : List (Nat × Nat)} {us : List Value}, PtrRels (SS env noP a.tmps vs2 w cs2 bs2) cs us → ValCs c (SS env noP a.tmps vs2 w cs2 bs2) (cs.map fun c => AV.path c.1 c.2) us := by
            intro cs
            induction cs with
            | nil => intro us h; exact h
            | cons p cs ih =>
              intro us h
              obtain ⟨v, vs', h1, h2, h3⟩ := h
              exact ⟨v, vs', h1, ⟨[], h2⟩, ih h3⟩
          exact go f2
        · simp only [List.mem_map] at hv
          obtain ⟨p, _, rfl⟩ := hv
          simp [AV.refs]
      · rename_i f xs ht
        have htl : t < env.length := by
          apply Decidable.byContradiction
          intro h
          rw [get_ge env t (Nat.le_of_not_lt h)] at ht
          cases ht
        have hval : ∀ vs cs' bs, Rel c (SS env noP a.tmps vs w cs' bs) → ∃ us, evT a.tmps (.tmp t) = .func (.func f) #[] us.toArray ∧ PtrVs (RoS c (SS env noP a.tmps vs w cs' bs)) w xs us := by
          intro vs cs' bs hrel
          have hav := hrel.av t
          have e1 : (SS env noP a.tmps vs w cs' bs).env t = .cloR f xs := by show ovl env noP t = _; rw [ovl_lt htl]; exact ht
          have e2 : (SS env noP a.tmps vs w cs' bs).tm t = evT a.tmps (.tmp t) := if_pos (hr.choose_spec.len ▸ htl)
          rw [e1, e2] at hav
          exact hav.2
        obtain ⟨vs, hlen, cs', bs, hrel, hno⟩ := id hr
        obtain ⟨us, e1, e2⟩ := hval vs cs' bs hrel
        refine op_call1 hO (ex := us) hop hdst hr hd (fun he => ?_) (fun vs2 cs2 bs2 hrel2 => ?_) (fun v hv => ?_) hK hn
        · simp [execOp, hop, resolve, hc, evT_eval, e1, Deferred.ofValue, invoke, run_callFunc he]
        · obtain ⟨us', f1, f2⟩ := hval vs2 cs2 bs2 hrel2
          rw [e1] at f1
          have : us = us' := by simpa using f1
          subst this
          exact ptrAVs_val f2
        · simp only [List.mem_map] at hv
          obtain ⟨p, _, rfl⟩ := hv
          rw [ptrAV_refs]
          simp
      · simp at hK
    · rename_i hc
      split at hK
      · rename_i x t hargs htys
        split at hK
        · rename_i s hs
          split at hK
          · rename_i ht
            exact op_len_str hT hop hc hargs htys hdst hr hd hs ht hK hn
          · simp at hK
        · split at hK
          · rename_i e τ ht
            split at hK
            · rename_i lx hx
              split at hK
              · rename_i xs hxs
                split at hK
                · rename_i hl
                  exact op_len_slice hT hop hc hargs htys hdst hr hd ht hx hxs hl hK hn
                · simp at hK
              · simp at hK
            · simp at hK
          · simp at hK
      · simp at hK
    · rename_i hc
      split at hK
      · rename_i s x t t' hargs htys
        split at hK
        · rename_i htt
          subst htt
          split at hK
          · rename_i r1 j1 i1 o1 hnest
            split at hK
            · rename_i te hte
              exact op_appendN hT hop hc hargs htys hdst hr hd hte hnest hK hn
            · simp at hK
          · exact op_append hT hop hc hargs htys hdst hr hd hK hn
        · simp at hK
      · simp at hK
    · rename_i hc
      split at hK
      · rename_i x y hargs
        split at hK
        · rename_i k n k' m hx hy
          split at hK
          · rename_i hkk
            subst hkk
            exact op_maxmin (t := 0) (mx := true) hop hc hargs hdst hr hd hx hy hK hn
          · simp at hK
        · simp at hK
      · simp at hK
    · rename_i hc
      split at hK
      · rename_i x y hargs
        split at hK
        · rename_i k n k' m hx hy
          split at hK
          · rename_i hkk
            subst hkk
            exact op_maxmin (t := 0) (mx := false) hop hc hargs hdst hr hd hx hy hK hn
          · simp at hK
        · simp at hK
      · simp at hK
    · simp at hK
  | _ => simp [evVal, hop] at hK
end
end Go.FP

/- Regions. Conditions: none. -/
namespace Go.FP
open Go.RowKit
set_option linter.unusedVariables false
set_option linter.unusedSimpArgs false

section
variable {P : Program} {R : Type} {r : R} {c : Cx} {T : Tab} {sig : FuncId → Option Sig} {caps : FuncId → List Ty} {orc : Orc}

theorem put_self : ∀ {env : Env} {d : Nat} {v : AV}, get env d = v → put env d v = env
  | [], d, v, h => by cases d <;> rfl
  | u :: env, 0, v, h => by
    have h : u = v := h
    rw [← h]; rfl
  | u :: env, d + 1, v, h => by
    have := put_self (env := env) (d := d) (v := v) h
    show u :: put env d v = _
    rw [this]

theorem RE.len {env : Env} {tmps : Array Value} {w : World} (h : RE c env tmps w) : env.length = tmps.size := h.choose_spec.len

theorem RE.skip {env : Env} {a : Act} {w : World} {o : Oper} {d : Nat} (hr : RE c env a.tmps w) (hdst : o.dst = some d) (hd : d < env.length) : RE c (setD (some d) env .skip) (a.put o.dst undef).tmps w := by
  obtain ⟨vs, h⟩ := hr
  have h1 := h.addVal (n := env.length) (Nat.le_refl _) rfl (av := .skip) (v := undef) (fun cs bs _ => ⟨[], rfl⟩) ⟨by simp [AV.refs], by simp [AV.ptrs]⟩
  have := RE.commit h1 hd
  rw [upd_same] at this
  rw [hdst]
  exact this

theorem set_self (tmps : Array Value) (d : Nat) (v : Value) (h : tmps.getD d undef = v) (hd : d < tmps.size) : tmps.setIfInBounds d v = tmps := by
  apply Array.ext_getElem?
  intro i
  rw [Array.getElem?_setIfInBounds]
  split
  · rename_i hi
    subst hi
    rw [← h]
    simp [hd]
  · rfl

theorem RE.know {env : Env} {tmps : Array Value} {w : World} {d : Nat} {b : Bool} (hr : RE c env tmps w) (hd : d < env.length) (hv : tmps.getD d undef = .bool b) : RE c (setD (some d) env (vBool b)) tmps w := by
  have hl := hr.len
  obtain ⟨vs, h⟩ := hr
  have h1 := h.addVal (n := env.length) (Nat.le_refl _) rfl (av := vBool b) (v := .bool b) (fun cs bs _ => val_bool _ _ _) no_refs2
  have := RE.commit h1 hd
  rw [upd_same, set_self tmps d _ hv (by omega)] at this
  exact this

theorem evOp_sound (hT : TabOk P T) (hO : OrcOk P sig orc) {o : Oper} {a : Act} {w : World} {env : Env} {K : Env → Option R} {next : Act → World → Prop} {Q : Exit → Act → World → Prop} (hr : RE c env a.tmps w) (hK : evOp T sig caps orc o env K = some r) (hn : Next c a K r env.length next) : o.wp P a w next Q := by
  unfold evOp at hK
  split at hK
  · rename_i d hdst
    split at hK
    · rename_i hd
      exact evVal_sound hT hO hdst hr hd hK hn
    · simp at hK
  · rename_i hdst
    split at hK
    · rename_i t x v hop
      unfold store1 at hK
      split at hK
      · rename_i s1 r1 j1 i1 o1 l1 hg
        split at hK
        · rename_i ht
          exact op_storeGrow hT hop hdst hr hg ht hK hn
        · simp at hK
      unfold storePlain at hK
      split at hK
      · simp at hK
      · rename_i τ ht
        split at hK
        · simp at hK
        · rename_i env1 ls hta
          split at hK
          · rename_i q off hx
            split at hK
            · rename_i e0 old hold
              split at hK
              · simp only at hK
                split at hK
                · rename_i e old2 h2
                  split at hK
                  · rename_i hc
                    exact op_store_path hT hop hdst hr ht hta hx h2 hc.1 hc.2 hK hn
                  · simp at hK
                · simp at hK
              · simp at hK
            · simp at hK
          · rename_i le q j i oo hx
            split at hK
            · rename_i e te xs lv hl
              split at hK
              · rename_i hc
                obtain ⟨rfl, hlm⟩ := hc
                obtain ⟨h0, hK⟩ := bif_some hK
                simp only [Bool.and_eq_true, decide_eq_true_eq] at h0
                split at hK
                · rename_i y hu
                  exact op_store_eptr hT hop hdst hr ht hta hx hl hlm h0.1 h0.2 hu hK hn
                · simp at hK
              · simp at hK
            · simp at hK
          · simp at hK
    · simp at hK

theorem evOps_sound (hT : TabOk P T) (hO : OrcOk P sig orc) {ops : Array Oper} {Q : Exit → Act → World → Prop} {N : Nat} {D : List Deferred} {K : Env → Option R} (hQ : ∀ env' a' w', K env' = some r → RE c env' a'.tmps w' → env'.length = N → a'.defers = D → Q .normal a' w') :
    ∀ (l : List Nat) {env : Env} {a : Act} {w : World}, RE c env a.tmps w → env.length = N → a.defers = D → evOps T sig caps orc ops (l.filterMap (ops[·]?)) env K = some r → wpOps P ops Q l a w
  | [], env, a, w, hr, hN, hD, hK => hQ env a w hK hr hN hD
  | i :: l, env, a, w, hr, hN, hD, hK => by
    unfold wpOps
    cases hi : ops[i]? with
    | none =>
      simp only
      rw [List.filterMap_cons_none (by exact hi)] at hK
      exact evOps_sound hT hO hQ l hr hN hD hK
    | some o =>
      simp only
      rw [List.filterMap_cons_some (by exact hi)] at hK
      have run : ∀ {env1 : Env}, RE c env1 a.tmps w → env1.length = N → evOp T sig caps orc o env1 (fun env' => evOps T sig caps orc ops (l.filterMap (ops[·]?)) env' K) = some r → o.wp P a w (wpOps P ops Q l) Q := by
        intro env1 hr1 hN1 hK1
        refine evOp_sound hT hO hr1 hK1 (fun env' a' w' hK' hr' hl' hd' => ?_)
        exact evOps_sound hT hO hQ l hr' (by omega) (hd'.trans hD) hK'
      have skip : ∀ {env1 : Env}, RE c env1 a.tmps w → env1.length = N → skipOp o env1 (fun env' => evOps T sig caps orc ops (l.filterMap (ops[·]?)) env' K) = some r → wpOps P ops Q l (a.put o.dst undef) w := by
        intro env1 hr1 hN1 hK1
        unfold skipOp at hK1
        split at hK1
        · rename_i d hdst
          split at hK1
          · rename_i hd
            refine evOps_sound hT hO hQ l (hr1.skip hdst hd) (by rw [setD_length]; exact hN1) ?_ hK1
            rw [hdst]
            exact hD
          · simp at hK1
        · rename_i hdst
          rw [hdst]
          exact evOps_sound hT hO hQ l hr1 hN1 hD hK1
      unfold evOps at hK
      cases hg : o.guard with
      | none =>
        rw [hg] at hK
        simp only at hK
        have hw : Region.wanted o (yielded ops a.tmps) = true := by simp [Region.wanted, hg]
        rw [if_pos hw]
        exact .inl (run hr hN hK)
      | some g =>
        obtain ⟨j, want⟩ := g
        rw [hg] at hK
        simp only at hK
        cases hj : (ops[j]?).bind (·.dst) with
        | none => rw [hj] at hK; simp at hK
        | some d =>
          rw [hj] at hK
          simp only at hK
          have hlen := hr.len
          have hdl : ∀ v, get env d = v → v ≠ .undef → d < env.length := fun v hv hne => by
            apply Decidable.byContradiction
            intro h
            rw [get_ge env d (Nat.le_of_not_lt h)] at hv
            exact hne hv.symm
          have hyield : d < env.length → yielded ops a.tmps j = match a.tmps.getD d undef with | .bool b => some b | _ => none := fun hd => by
            unfold yielded
            rw [hj]
            simp only [Option.bind_some]
            have hd2 : d < a.tmps.size := hlen ▸ hd
            rw [Array.getD_eq_getD_getElem?, Array.getElem?_eq_getElem hd2, Option.getD_some]
            generalize a.tmps[d] = v
            cases v <;> rfl
          split at hK
          · rename_i hskip
            have hd := hdl _ hskip (by simp)
            have hv : a.tmps.getD d undef = undef := by
              obtain ⟨vs, hl, cs, bs, hrel, _⟩ := id hr
              have hav := hrel.av d
              have e1 : ovl env noP d = .skip := by rw [ovl_lt hd]; exact hskip
              have e2 : ovlT a.tmps vs d = a.tmps.getD d undef := if_pos (hlen ▸ hd)
              simp only [e1, e2] at hav
              exact hav.1
            have hw : Region.wanted o (yielded ops a.tmps) = false := by
              simp only [Region.wanted, hg, hyield hd, hv]
              rfl
            rw [if_neg (by rw [hw]; simp)]
            exact skip hr hN hK
          · rename_i b hget
            · have hb : bool1 (rd none env (.tmp d)) = some b := by
                simp only [rd, hget, borrowFrom, Mode.own]
                rfl
              have hvb := hr.bool1 hb
              have hd : d < env.length := con_lt hget
              have hv : a.tmps.getD d undef = .bool b := hvb
              have hps : put env d (vBool b) = env := put_self hget
              have hw : Region.wanted o (yielded ops a.tmps) = (b == want) := by
                simp only [Region.wanted, hg, hyield hd, hv]
                cases b <;> cases want <;> rfl
              rw [hw]
              cases b with
              | true =>
                simp only [cond_true] at hK
                rw [hps] at hK
                cases want with
                | true => rw [if_pos (by decide)] at hK; rw [if_pos (by decide)]; exact .inl (run hr hN hK)
                | false => rw [if_neg (by decide)] at hK; rw [if_neg (by decide)]; exact skip hr hN hK
              | false =>
                simp only [cond_false] at hK
                rw [hps] at hK
                cases want with
                | true => rw [if_pos (by decide)] at hK; rw [if_neg (by decide)]; exact skip hr hN hK
                | false => rw [if_neg (by decide)] at hK; rw [if_pos (by decide)]; exact .inl (run hr hN hK)
          · simp at hK
end
end Go.FP

/- Code. Conditions: none. -/
namespace Go.FP
open Go.RowKit
set_option linter.unusedVariables false
set_option linter.unusedSimpArgs false

section
variable {P : Program} {R : Type} {r : R} {c : Cx} {T : Tab} {sig : FuncId → Option Sig} {caps : FuncId → List Ty} {orc : Orc}

theorem RE.forgetD {env : Env} {tmps : Array Value} {w : World} {d : Nat} (hr : RE c env tmps w) (hd : d < env.length) : RE c (put (clear d env) d .undef) tmps w := by
  have hl := hr.len
  obtain ⟨vs, h⟩ := hr
  have h1 := h.addVal (n := env.length) (Nat.le_refl _) rfl (av := .undef) (v := tmps.getD d undef) (fun cs bs _ => ⟨[], trivial⟩) ⟨by simp [AV.refs], by simp [AV.ptrs]⟩
  have := RE.commit h1 hd
  rw [upd_same, set_self tmps d _ rfl (by omega)] at this
  unfold setD at this
  unfold clear
  simp only at this
  split at this
  · rename_i hq; rw [if_pos hq]; exact this
  · rename_i hq; rw [if_neg hq]; exact this

theorem dropAll_sound {keep : List Nat} {tmps : Array Value} {w : World} : ∀ (ds : List Nat) {env : Env}, RE c env tmps w → (∀ d ∈ ds, d < env.length) → RE c (dropAll keep ds env) tmps w ∧ (dropAll keep ds env).length = env.length
  | [], env, hr, _ => ⟨hr, rfl⟩
  | d :: ds, env, hr, hd => by
    unfold dropAll
    split
    · exact dropAll_sound ds hr (fun d' hd' => hd d' (List.mem_cons_of_mem _ hd'))
    · have h1 := hr.forgetD (hd d List.mem_cons_self)
      have hlen : (put (clear d env) d .undef).length = env.length := by
        rw [put_length]; unfold clear; split
        · rfl
        · exact forget_length _ _
      obtain ⟨k1, k2⟩ := dropAll_sound (keep := keep) ds h1 (fun d' hd' => by rw [hlen]; exact hd d' (List.mem_cons_of_mem _ hd'))
      exact ⟨k1, k2.trans hlen⟩

theorem RE.drew {env : Env} {tmps : Array Value} {w : World} (hr : RE c env tmps w) : RE c env tmps { w with drawn := w.drawn + 1 } := by
  obtain ⟨vs, hl, cs, bs, h, hno⟩ := hr
  exact ⟨vs, hl, cs, bs, h.world (w' := { w with drawn := w.drawn + 1 }) ⟨rfl, rfl, rfl, Nat.le_refl _, fun _ _ => rfl⟩, hno⟩

/-- What a region with open order needs: every order that may come says the same. -/
def DrawHyp {R : Type} (T : Tab) (sig : FuncId → Option Sig) (caps : FuncId → List Ty) (orc : Orc) (dr : Array Oper → Env → (Env → Option R) → Option R) : Prop :=
  ∀ (ops : Array Oper) (env : Env) (K : Env → Option R) (r : R), dr ops env K = some r → ∀ t, evOps T sig caps orc ops ((Region.linearise .any ops t).filterMap (ops[·]?)) env K = some r

theorem range_all (ops : Array Oper) : (List.range ops.size).filterMap (ops[·]?) = ops.toList := by
  apply List.ext_getElem?
  intro i
  rw [← Array.length_toList]
  have : ∀ (l : List Oper), (List.range l.length).filterMap (fun i => l[i]?) = l := by
    intro l
    induction l with
    | nil => rfl
    | cons x l ih =>
      rw [List.length_cons, List.range_succ_eq_map, List.filterMap_cons_some (by rfl), List.filterMap_map]
      congr 1
  have h2 := this ops.toList
  simp only [Array.getElem?_toList] at h2
  rw [h2]

theorem evCode_sound (hT : TabOk P T) (hO : OrcOk P sig orc) (hm : P.follows .mixedOrders = true) {dr : Array Oper → Env → (Env → Option R) → Option R} (hdraw : DrawHyp (R := R) T sig caps orc dr) {fuel : Nat} {ann : Nat → Option (List Nat)} {N : Nat} {D : List Deferred} :
    ∀ (code : Code) {m : Nat} {env : Env} {K : Exit → Env → Option R} {Q : Exit → Act → World → Prop} {a : Act} {w : World}, RE c env a.tmps w → env.length = N → a.defers = D →
      (∀ e env' a' w', K e env' = some r → RE c env' a'.tmps w' → env'.length = N → a'.defers = D → Q e a' w') → evCode T sig caps orc dr fuel ann m code env K = some r → code.wp P Q a w := by
  intro code
  induction code with
  | skip =>
    intro m env K Q a w hr hN hD hQ hK
    simp only [evCode] at hK
    exact wp_skip (hQ _ _ _ _ hK hr hN hD)
  | region id ops draw =>
    intro m env K Q a w hr hN hD hQ hK
    simp only [evCode] at hK
    cases draw with
    | false =>
      simp only [Bool.false_eq_true, if_false] at hK
      refine wp_region (evOps_sound (caps := caps) hT hO (K := K .normal) (N := N) (D := D) (fun env' a' w' h1 h2 h3 h4 => hQ _ _ _ _ h1 h2 h3 h4) _ hr hN hD ?_)
      rw [range_all]
      exact hK
    | true =>
      simp only [if_true] at hK
      refine wp_region_draw (fun t => ?_)
      simp only [Region.schedule, hm, Bool.true_or, if_true]
      exact evOps_sound hT hO (K := K .normal) (N := N) (D := D) (fun env' a' w' h1 h2 h3 h4 => hQ _ _ _ _ h1 h2 h3 h4) _ hr.drew hN hD (hdraw ops env _ r hK t)
  | seq x y ihx ihy =>
    intro m env K Q a w hr hN hD hQ hK
    simp only [evCode] at hK
    refine wp_seq (ihx hr hN hD (fun e env' a' w' h1 h2 h3 h4 => ?_) hK)
    cases e with
    | normal => exact ihy h2 h3 h4 hQ h1
    | _ => exact hQ _ _ _ _ h1 h2 h3 h4
  | cond cc x y ihx ihy =>
    intro m env K Q a w hr hN hD hQ hK
    simp only [evCode] at hK
    split at hK
    · rename_i t hb
      have hc := hr.bool1 hb
      refine wp_cond (t := t) (by rw [evT_eval]; exact hc) ?_
      cases t with
      | true => exact ihx hr hN hD hQ hK
      | false => exact ihy hr hN hD hQ hK
    · simp at hK
  | block id x ih =>
    intro m env K Q a w hr hN hD hQ hK
    simp only [evCode] at hK
    refine wp_block (ih hr hN hD (fun e env' a' w' h1 h2 h3 h4 => ?_) hK)
    cases e with
    | exit id' =>
      simp only at h1
      show if id' = id then Q .normal a' w' else Q (.exit id') a' w'
      split at h1
      · rename_i hid; rw [if_pos hid]; exact hQ _ _ _ _ h1 h2 h3 h4
      · rename_i hid; rw [if_neg hid]; exact hQ _ _ _ _ h1 h2 h3 h4
    | _ => exact hQ _ _ _ _ h1 h2 h3 h4
  | loop x ih =>
    intro m env K Q a w hr hN hD hQ hK
    simp only [evCode] at hK
    split at hK
    · simp at hK
    · rename_i keep hkeep
      refine wp_loop_rounds fuel ?_
      have key : ∀ (n : Nat) {env : Env} {a : Act} {w : World}, RE c env a.tmps w → env.length = N → a.defers = D →
          iter (fun rec env => evCode T sig caps orc dr fuel ann m x env fun e env' => match e with | .normal => rec (dropAll keep (List.range env'.length) env') | e => K e env') n env = some r → Code.rounds P x Q n a w := by
        intro n
        induction n with
        | zero => intro env a w _ _ _ hK; simp [iter] at hK
        | succ n ihn =>
          intro env a w hr hN hD hK
          simp only [iter] at hK
          rw [rounds_succ]
          refine ih hr hN hD (fun e env' a' w' h1 h2 h3 h4 => ?_) hK
          cases e with
          | normal =>
            obtain ⟨k1, k2⟩ := dropAll_sound (keep := keep) (List.range env'.length) h2 (fun d hd => List.mem_range.1 hd)
            exact ihn k1 (by rw [k2]; exact h3) h4 h1
          | _ => exact hQ _ _ _ _ h1 h2 h3 h4
      obtain ⟨k1, k2⟩ := dropAll_sound (keep := keep) (List.range env.length) hr (fun d hd => List.mem_range.1 hd)
      exact key fuel k1 (by rw [k2]; exact hN) hD hK
  | exit id =>
    intro m env K Q a w hr hN hD hQ hK
    simp only [evCode] at hK
    exact wp_exit (hQ _ _ _ _ hK hr hN hD)
  | ret =>
    intro m env K Q a w hr hN hD hQ hK
    simp only [evCode] at hK
    exact wp_ret (hQ _ _ _ _ hK hr hN hD)
  | _ => intro m env K Q a w hr hN hD hQ hK; simp [evCode] at hK
end
end Go.FP

/- A whole function: its contract. Conditions: none. -/
namespace Go.FP
open Go.RowKit
set_option linter.unusedVariables false
set_option linter.unusedSimpArgs false

/-- What an argument's value is, in any state that may read it. -/
def ArgOk (S : Nat → Prop) (w : World) (c : Cx) (av : AV) (v : Value) (cells : List Value) : Prop :=
  ∀ (s : St) (r : Nat), s.w = w → (∀ b, S b → RoS c s b) → (∀ l, s.bs r l = []) → s.cs r = cells → AVRel c s r av v ∧ av.refs = [] ∧ av.ptrs = []

theorem param_ok {S : Nat → Prop} {w : World} {c : Cx} {rv : RV} {v : Value} {av : AV} (h : RVRel S w rv v) (hp : paramAV rv = some av) : ∃ cells, ArgOk S w c av v cells := by
  cases rv with
  | val t x =>
    obtain ⟨ch, rfl, hrep⟩ := h
    simp only [paramAV, Option.some.injEq] at hp
    subst hp
    obtain ⟨h1, h2⟩ := leaves_ro t (fun _ => .at_ .ro) 0 hrep
    refine ⟨ch, fun s r hw hS hb hc => ⟨?_, leaves_ro_refs t x 0, rfl⟩⟩
    refine ⟨?_, by rw [hc]; exact h1, fun l _ => hb _, fun l lf u hl hu => ?_⟩
    · rw [hc]
      exact (KCells_mkV (w := s.w) (fun ha => by rw [hrep.len]; exact sz_one ha)).bare (hb 0)
    · rw [hc] at hu
      have hm := leaves_bare t x 0 lf (mem_leafAt hl)
      have := (h2 l lf u (by rw [← leafAt_eq]; exact hl) hu).1
      refine LeafRel.of_held (by rw [hm]; rfl) (hb _) ?_
      obtain ⟨t', x', m⟩ := lf
      simp only at hm
      subst hm
      show Rep (RoS c s) s.w _ _ _ _ _
      rw [hw]
      exact Rep.move (fun b hb _ => ⟨hS b hb, rfl⟩) (by simp) this
  | ptr t x =>
    obtain ⟨a, ch, rfl, hSa, hlt, hcell, hrep⟩ := h
    simp only [paramAV, Option.some.injEq] at hp
    subst hp
    obtain ⟨h1, h2⟩ := leaves_ro t (fun _ => .at_ .ro) 0 hrep
    refine ⟨[], fun s r hw hS hb hc => ⟨?_, by simp only [AV.refs, List.append_nil]; exact leaves_ro_refs t x 0, rfl⟩⟩
    refine ⟨hb, a, rfl, fun l lf hl => ?_, hS _ hSa, by rw [hw]; exact hlt⟩
    have hm := leaves_bare t x 0 lf (mem_leafAt hl)
    refine ⟨by rw [hm]; rfl, ?_⟩
    have hl' := hl
    rw [leafAt_eq] at hl'
    have hll : l < ch.length := by rw [← h1]; exact (List.getElem?_eq_some_iff.1 hl').1
    refine ⟨ch[l], by rw [hw]; exact hcell l _ (List.getElem?_eq_getElem hll), ?_⟩
    have := (h2 l lf ch[l] hl' (List.getElem?_eq_getElem hll)).1
    obtain ⟨t', x', m⟩ := lf
    simp only at hm
    subst hm
    show Rep (RoS c s) s.w _ _ _ _ _
    rw [hw]
    exact Rep.move (fun b hb _ => ⟨hS b hb, rfl⟩) (by simp) this
  | clo f caps =>
    obtain ⟨us, rfl, hps⟩ := h
    simp only [paramAV, Option.some.injEq] at hp
    subst hp
    exact ⟨[], fun s r hw hS hb hc => ⟨⟨hb, us, rfl, hps.move (fun b hb _ => ⟨hS b hb, by rw [hw]⟩)⟩, rfl, rfl⟩⟩

theorem params_ok {S : Nat → Prop} {w : World} {c : Cx} : ∀ {args : List RV} {vals : List Value} {as : List AV}, RVRels S w args vals → paramAVs args = some as → vals.length = as.length ∧ ∃ cs : Nat → List Value, ∀ r, r < as.length → ArgOk S w c (get as r) (vals.getD r undef) (cs r)
  | [], vals, as, h, hp => by
    simp only [paramAVs, Option.some.injEq] at hp
    subst hp
    exact ⟨by rw [show vals = [] from h]; rfl, fun _ => [], fun r hr => by simp at hr⟩
  | rv :: args, vals, as, ⟨v, vals', e, h1, h2⟩, hp => by
    simp only [paramAVs] at hp
    cases ha : paramAV rv with
    | none => rw [ha] at hp; simp at hp
    | some av =>
      cases has : paramAVs args with
      | none => rw [ha, has] at hp; simp at hp
      | some as' =>
        rw [ha, has] at hp
        simp only [Option.some.injEq] at hp
        subst hp; subst e
        obtain ⟨k1, cs, k2⟩ := params_ok (c := c) h2 has
        obtain ⟨cells, k3⟩ := param_ok (c := c) h1 ha
        refine ⟨by simp [k1], fun r => match r with | 0 => cells | r + 1 => cs r, fun r hr => ?_⟩
        cases r with
        | zero => exact k3
        | succ r => exact k2 r (by simpa using hr)

theorem get_append_lt : ∀ (as bs : Env) (r : Nat), r < as.length → get (as ++ bs) r = get as r
  | [], bs, r, h => by simp at h
  | a :: as, bs, 0, _ => rfl
  | a :: as, bs, r + 1, h => get_append_lt as bs r (by simpa using h)
theorem get_append_ge : ∀ (as bs : Env) (r : Nat), as.length ≤ r → get (as ++ bs) r = get bs (r - as.length)
  | [], bs, r, h => by simp
  | a :: as, bs, 0, h => by simp at h
  | a :: as, bs, r + 1, h => by
    simp only [List.cons_append, get, List.length_cons, Nat.add_sub_add_right]
    exact get_append_ge as bs r (by simpa using h)
theorem get_rep : ∀ (n r : Nat) (v : AV), r < n → get (List.replicate n v) r = v
  | 0, r, v, h => by omega
  | n + 1, 0, v, _ => rfl
  | n + 1, r + 1, v, h => get_rep n r v (by omega)

/-- The state at a function's entry. -/
theorem entry {S : Nat → Prop} {w : World} {args : List RV} {vals : List Value} {as : List AV} (h : RVRels S w args vals) (hp : paramAVs args = some as) {n : Nat} (hn : as.length ≤ n) :
    RE ⟨S, w.heap.size, w⟩ (as ++ List.replicate (n - as.length) .skip) (vals.toArray ++ Array.replicate (n - vals.toArray.size) undef) w := by
  obtain ⟨k1, cs, k2⟩ := params_ok (c := ⟨S, w.heap.size, w⟩) h hp
  have hsz : vals.toArray.size = as.length := by simpa using k1
  let env : Env := as ++ List.replicate (n - as.length) .skip
  let tmps : Array Value := vals.toArray ++ Array.replicate (n - vals.toArray.size) undef
  have hel : env.length = n := by simp [env]; omega
  have htl : tmps.size = n := by simp [tmps]; omega
  let bs : Nat → Nat → List Nat := fun _ _ => []
  let s : St := SS env noP tmps noV w cs bs
  have hRoS : ∀ b, S b → RoS ⟨S, w.heap.size, w⟩ s b := fun b hb => ⟨fun _ _ => by simp [s, bs], .inl hb⟩
  have hget : ∀ r, r < as.length → ovl env noP r = get as r ∧ ovlT tmps noV r = vals.getD r undef := fun r hr => by
    refine ⟨by rw [ovl_lt (by omega)]; exact get_append_lt _ _ _ hr, ?_⟩
    show (if r < tmps.size then tmps.getD r undef else _) = _
    rw [if_pos (by omega)]
    have : r < vals.length := by omega
    simp [tmps, this, Array.getD_eq_getD_getElem?, Array.getElem?_append, List.getD_eq_getElem?_getD]
  have hav : ∀ r, AVRel ⟨S, w.heap.size, w⟩ s r (ovl env noP r) (ovlT tmps noV r) ∧ (ovl env noP r).refs = [] ∧ (ovl env noP r).ptrs = [] := fun r => by
    by_cases h1 : r < as.length
    · rw [(hget r h1).1, (hget r h1).2]
      exact k2 r h1 s r rfl hRoS (fun _ => rfl) rfl
    · by_cases h2 : r < n
      · have e1 : ovl env noP r = .skip := by
          rw [ovl_lt (by omega)]
          show get (as ++ _) r = _
          rw [get_append_ge _ _ _ (by omega), get_rep _ _ _ (by omega)]
        have e2 : ovlT tmps noV r = undef := by
          show (if r < tmps.size then tmps.getD r undef else _) = _
          rw [if_pos (by omega)]
          simp only [tmps, Array.getD_eq_getD_getElem?]
          rw [Array.getElem?_append_right (by omega), Array.getElem?_replicate]
          split <;> rfl
        rw [e1, e2]
        exact ⟨⟨rfl, fun _ => rfl⟩, rfl, rfl⟩
      · have e1 : ovl env noP r = .undef := by rw [ovl_ge (by omega)]; rfl
        rw [e1]
        exact ⟨fun _ => rfl, rfl, rfl⟩
  refine ⟨noV, by rw [hel, htl], cs, bs, ⟨Below.refl _ _, Nat.le_refl _, fun r l b hb => by simp [bs] at hb, fun r l r' l' b hb => by simp [bs] at hb, fun r l => List.nodup_nil, fun r => (hav r).1⟩, fun r => ?_⟩
  rw [(hav r).2.1, (hav r).2.2]
  exact ⟨by simp, by simp⟩
end Go.FP

/- A whole function: its end, its contract. Conditions: none. -/
namespace Go.FP
open Go.RowKit
set_option linter.unusedVariables false
set_option linter.unusedSimpArgs false

def ownB (bs : Nat → Nat → List Nat) (t : Ty) (d : Nat) : List Nat := (List.range' 0 t.sz).flatMap fun l => bs d (l + 1)
def resB (bs : Nat → Nat → List Nat) : List (Ty × Bool) → List ResultVar → List Nat
  | p :: ps, v :: vs => (if p.2 then ownB bs p.1 (resTmp v) else []) ++ resB bs ps vs
  | _, _ => []

section
variable {P : Program} {c : Cx} {T : Tab}

theorem ownB_mem {bs : Nat → Nat → List Nat} {t : Ty} {d b : Nat} (h : b ∈ ownB bs t d) : ∃ l, b ∈ bs d (l + 1) := by
  simp only [ownB, List.mem_flatMap] at h
  obtain ⟨l, _, h⟩ := h
  exact ⟨l, h⟩

theorem resB_mem {bs : Nat → Nat → List Nat} : ∀ {rs : List (Ty × Bool)} {vars : List ResultVar} {b : Nat}, b ∈ resB bs rs vars → ∃ (i : Nat) (p : Ty × Bool) (v : ResultVar) (l : Nat), rs[i]? = some p ∧ vars[i]? = some v ∧ p.2 = true ∧ b ∈ bs (resTmp v) (l + 1)
  | [], vars, b, h => by simp [resB] at h
  | p :: ps, [], b, h => by simp [resB] at h
  | p :: ps, v :: vs, b, h => by
    simp only [resB, List.mem_append] at h
    rcases h with h | h
    · split at h
      · rename_i hp
        obtain ⟨l, hl⟩ := ownB_mem h
        exact ⟨0, p, v, l, rfl, rfl, hp, hl⟩
      · simp at h
    · obtain ⟨i, p', v', l, h1, h2, h3, h4⟩ := resB_mem h
      exact ⟨i + 1, p', v', l, h1, h2, h3, h4⟩

/-- One result's cells. -/
theorem res_core {env : Env} {tmps : Array Value} {vs : Nat → Value} {w : World} {cs : Nat → List Value} {bs : Nat → Nat → List Nat} (hr : Rel c (SS env noP tmps vs w cs bs)) {t : Ty} {fr : Bool} {d : Nat} {k : Kind} {ls : List Leaf} {x : t.D} (hk : get env d = .con k ls)
    (hall : (ls.all fun l => l.m.settled && (!fr || (match l.t with | .slice _ _ => l.m == .at_ .dp | _ => true))) = true) (has : asm t ls = some (x, [])) :
    (fr = true → Rep (fun _ => False) w t .dp (cs d) x (ownB bs t d)) ∧ ∀ S' : Nat → Prop, (∀ b, RoS c (SS env noP tmps vs w cs bs) b → S' b) → (∀ l, ∀ b ∈ bs d (l + 1), S' b) → Rep S' w t .ro (cs d) x [] := by
  have hd : d < env.length := con_lt hk
  have hav := hr.av d
  have e1 : (SS env noP tmps vs w cs bs).env d = .con k ls := by show ovl env noP d = _; rw [ovl_lt hd, hk]
  rw [e1] at hav
  obtain ⟨_, g2, g3, g4⟩ := hav
  have hleaf : ∀ l lf u, ls[l]? = some lf → (cs d)[l]? = some u → ∃ lv, lf.m = .at_ lv ∧ Rep (RoS c (SS env noP tmps vs w cs bs)) w lf.t lv [u] lf.x (bs d (l + 1)) ∧ (fr = true → (match lf.t with | .slice _ _ => lv = .dp | _ => True)) := by
    intro l lf u hl hu
    have h6 := g4 l lf u (by rw [leafAt_eq]; exact hl) hu
    have h7 := List.all_eq_true.1 hall lf (List.mem_of_getElem? hl)
    simp only [Bool.and_eq_true, Bool.or_eq_true, Bool.not_eq_true'] at h7
    obtain ⟨h7, h8⟩ := h7
    obtain ⟨t', x', m⟩ := lf
    cases m with
    | at_ lv =>
      refine ⟨lv, rfl, h6.rep, fun hfr => ?_⟩
      have h8 := h8.resolve_left (by rw [hfr]; simp)
      cases t' with
      | slice e τ => simpa using h8
      | _ => trivial
    | bor _ _ _ => simp [Mode.settled] at h7
    | dead => simp [Mode.settled] at h7
  refine ⟨fun hfr => ?_, fun S' h1 h2 => ?_⟩
  · obtain ⟨c0, c1, k1, k2, k3, k4, _⟩ := asm_repB (S := fun _ => False) (w := w) (L := .dp) (F := fun l => bs d (l + 1)) t (k := 0) has g2 (fun l lf u hl hu => by
      obtain ⟨lv, h1, h2, h3⟩ := hleaf l lf u hl hu
      rw [Nat.zero_add]
      have h3 := h3 hfr
      obtain ⟨us, e0, hna⟩ := asm_noAgg t has
      rw [List.append_nil] at e0
      have hna := hna lf (by rw [← e0]; exact List.mem_of_getElem? hl)
      obtain ⟨t', x', m⟩ := lf
      simp only at h1 h2 h3
      cases t' with
      | slice e τ => simp only at h3; subst h3; exact Rep.dpS h2
      | int _ => exact h2
      | bool => exact h2
      | str => exact h2
      | unit => simp [Ty.isAgg] at hna
      | pair _ _ => simp [Ty.isAgg] at hna)
    have : c1 = [] := List.length_eq_zero_iff.1 k3.symm
    subst this
    rw [List.append_nil] at k1
    have k1 : cs d = c0 := k1
    rw [k1]
    exact k4
  · obtain ⟨c0, c1, k1, k3, k4, _⟩ := asm_rep (S := S') (w := w) t has g2 (fun l lf u hl hu => by
      obtain ⟨lv, _, h3, _⟩ := hleaf l lf u hl hu
      exact h3.roS (fun b hb _ => h1 b hb) (fun b hb => h2 l b hb))
    have : c1 = [] := List.length_eq_zero_iff.1 k3.symm
    subst this
    rw [List.append_nil] at k1
    have k1 : cs d = c0 := k1
    rw [k1]
    exact k4

/-- What a result reads as. -/
def rvRun (tmps : Array Value) : ResultVar → Sem Value := fun
    | ResultVar.tmp t => pure (tmps.getD t undef)
    | ResultVar.cell a t => do loadVar t (← asAddr (tmps.getD a undef))
def RunsTo (P : Program) (tmps : Array Value) (w : World) (v : ResultVar) (u : Value) : Prop := Sem.run P (rvRun tmps v) w = Result.ok u w

/-- One result. -/
theorem res1_rel (hT : TabOk P T) {env : Env} {tmps : Array Value} {vs : Nat → Value} {w : World} {cs : Nat → List Value} {bs : Nat → Nat → List Nat} (hlen : env.length = tmps.size) (hr : Rel c (SS env noP tmps vs w cs bs)) {t : Ty} {fr : Bool} {v : ResultVar} {x : t.D} (h : res1 T env t fr v = some x) :
    ∃ ch, RunsTo P tmps w v (mkV t.isAgg ch) ∧ (fr = true → Rep (fun _ => False) w t .dp ch x (ownB bs t (resTmp v))) ∧ ∀ S' : Nat → Prop, (∀ b, RoS c (SS env noP tmps vs w cs bs) b → S' b) → (∀ l, ∀ b ∈ bs (resTmp v) (l + 1), S' b) → Rep S' w t .ro ch x [] := by
  cases v with
  | cell d tid =>
    simp only [res1] at h
    split at h
    · rename_i htid
      split at h
      · rename_i e ls hk
        split at h
        · rename_i hall
          split at h
          · rename_i y has
            simp only [Option.some.injEq] at h
            subst h
            obtain ⟨k1, k2⟩ := res_core hr hk hall has
            refine ⟨cs d, ?_, k1, k2⟩
            have hd : d < env.length := con_lt hk
            have hav := hr.av d
            have e1 : (SS env noP tmps vs w cs bs).env d = .con (.box e) ls := by show ovl env noP d = _; rw [ovl_lt hd, hk]
            have e2 : (SS env noP tmps vs w cs bs).tm d = tmps.getD d undef := if_pos (hlen ▸ hd)
            rw [e1, e2] at hav
            obtain ⟨⟨B, g1, g2, _⟩, _⟩ := hav
            have hl := (k2 (fun _ => True) (fun _ _ => trivial) (fun _ _ _ => trivial)).len
            have hload := run_loadAt (P := P) (w := w) hT htid (x := ⟨B, 0, none⟩) hl (fun j u hu => by
              rw [add_lit']
              unfold World.cell?
              rw [show w.heap[B]? = _ from g2]
              simpa using hu)
            simp only [RunsTo, rvRun]
            rw [g1]
            simpa [Instr.loadAt, Instr.sureAddr, asAddr] using hload
          · simp at h
        · simp at h
      · simp at h
    · simp at h
  | tmp d =>
    simp only [res1] at h
    split at h
    · rename_i k ls hk
      split at h
      · rename_i hc
        simp only [Bool.and_eq_true, decide_eq_true_eq] at hc
        obtain ⟨hkind, hall⟩ := hc
        split at h
        · rename_i y has
          simp only [Option.some.injEq] at h
          subst h
          obtain ⟨k1, k2⟩ := res_core hr hk hall has
          refine ⟨cs d, ?_, k1, k2⟩
          have hd : d < env.length := con_lt hk
          have hav := hr.av d
          have e1 : (SS env noP tmps vs w cs bs).env d = .con k ls := by show ovl env noP d = _; rw [ovl_lt hd, hk]
          have e2 : (SS env noP tmps vs w cs bs).tm d = tmps.getD d undef := if_pos (hlen ▸ hd)
          rw [e1, e2] at hav
          obtain ⟨g1, _⟩ := hav
          have hval : tmps.getD d undef = mkV t.isAgg (cs d) := by
            subst hkind
            unfold Ty.kind at g1
            unfold mkV
            split at g1
            · rename_i ha
              rw [ha]
              exact g1.1
            · rename_i ha
              have ha : t.isAgg = false := by simpa using ha
              rw [ha]
              rw [show cs d = [tmps.getD d undef] from g1.1]
              rfl
          simp only [RunsTo, rvRun]
          rw [hval]
          simp
        · simp at h
      · simp at h
    · simp at h

def RunsTos (P : Program) (tmps : Array Value) (w : World) : List ResultVar → List Value → Prop
  | [], us => us = []
  | v :: vs, us => ∃ u us', us = u :: us' ∧ RunsTo P tmps w v u ∧ RunsTos P tmps w vs us'

theorem resN_rel (hT : TabOk P T) {S : Nat → Prop} {env : Env} {tmps : Array Value} {vs : Nat → Value} {w : World} {cs : Nat → List Value} {bs : Nat → Nat → List Nat} (hlen : env.length = tmps.size) (hr : Rel c (SS env noP tmps vs w cs bs)) (hS : ∀ b, c.S0 b → S b) {B : List Nat} (hB : ∀ b ∈ B, ∃ r l, b ∈ bs r l) :
    ∀ {rs : List (Ty × Bool)} {vars : List ResultVar} {xs : List (Σ t : Ty, t.D)}, resN T env rs vars = some xs → (∀ (i : Nat) (p : Ty × Bool) (v : ResultVar), rs[i]? = some p → vars[i]? = some v → p.2 = false → ∀ l, ∀ b ∈ bs (resTmp v) (l + 1), b ∉ B) →
      ∃ chs, ResRel S c.base w B rs xs chs (resB bs rs vars) ∧ RunsTos P tmps w vars (resVals rs chs)
  | [], [], xs, h, hne => by
    simp only [resN, Option.some.injEq] at h
    subst h
    exact ⟨[], ⟨rfl, rfl, rfl⟩, rfl⟩
  | [], v :: vars, xs, h, hne => by simp [resN] at h
  | p :: ps, [], xs, h, hne => by simp [resN] at h
  | (t, fr) :: ps, v :: vars, xs, h, hne => by
    simp only [resN] at h
    cases hx : res1 T env t fr v with
    | none => rw [hx] at h; simp at h
    | some x =>
      cases hxs : resN T env ps vars with
      | none => rw [hx, hxs] at h; simp at h
      | some xs' =>
        rw [hx, hxs] at h
        simp only [Option.some.injEq] at h
        subst h
        obtain ⟨ch, k2, k3, k4⟩ := res1_rel hT hlen hr hx
        obtain ⟨chs, m1, m2⟩ := resN_rel hT hlen hr hS hB hxs (fun i p v h1 h2 => hne (i + 1) p v h1 h2)
        refine ⟨ch :: chs, ⟨x, xs', ch, chs, _, _, rfl, rfl, rfl, ?_, m1⟩, ⟨_, _, rfl, k2, m2⟩⟩
        cases fr with
          | true => exact Rep.dpS (k3 rfl)
          | false =>
            refine k4 _ (fun b hb => ⟨hb.2.imp (hS b) id, fun hbB => ?_⟩) (fun l b hb => ⟨.inr (hr.own _ _ _ hb).1, hne 0 _ _ rfl rfl rfl l b hb⟩)
            obtain ⟨r, l, h1⟩ := hB b hbB
            exact hb.1 r l h1

theorem nodup_idx {α : Type} : ∀ {l : List α}, l.Nodup → ∀ {i j : Nat} {x : α}, l[i]? = some x → l[j]? = some x → i = j
  | [], _, i, j, x, hi, _ => by simp at hi
  | a :: l, h, 0, 0, x, _, _ => rfl
  | a :: l, h, 0, j + 1, x, hi, hj => by
    simp only [List.getElem?_cons_zero, Option.some.injEq] at hi
    subst hi
    exact absurd (List.mem_of_getElem? (by simpa using hj)) (List.nodup_cons.1 h).1
  | a :: l, h, i + 1, 0, x, hi, hj => by
    simp only [List.getElem?_cons_zero, Option.some.injEq] at hj
    subst hj
    exact absurd (List.mem_of_getElem? (by simpa using hi)) (List.nodup_cons.1 h).1
  | a :: l, h, i + 1, j + 1, x, hi, hj => by rw [nodup_idx (List.nodup_cons.1 h).2 hi hj]

theorem resB_nodup {s : St} (hr : Rel c s) : ∀ {rs : List (Ty × Bool)} {vars : List ResultVar}, (vars.map resTmp).Nodup → (resB s.bs rs vars).Nodup
  | [], vars, _ => by simp [resB]
  | p :: ps, [], _ => by simp [resB]
  | p :: ps, v :: vars, hn => by
    simp only [List.map_cons, List.nodup_cons] at hn
    simp only [resB]
    refine List.nodup_append.2 ⟨?_, resB_nodup hr hn.2, fun a ha b hb e => ?_⟩
    · split
      · exact nodup_flat (fun l => hr.nodup _ _) (fun l l' b h1 h2 => by have := (hr.disj _ _ _ _ _ h1 h2).2; omega) _ _
      · exact List.nodup_nil
    · subst e
      split at ha
      · obtain ⟨l, hl⟩ := ownB_mem ha
        obtain ⟨i, p', v', l', _, h2, _, h4⟩ := resB_mem hb
        have := (hr.disj _ _ _ _ _ hl h4).1
        exact hn.1 (by rw [this]; exact List.mem_map.2 ⟨v', List.mem_of_getElem? h2, rfl⟩)
      · simp at ha

theorem run_vars {tmps : Array Value} {w : World} : ∀ {l : List ResultVar} {us : List Value}, RunsTos P tmps w l us → Sem.run P (l.mapM (rvRun tmps)) w = Result.ok us w
  | [], us, h => by rw [show us = [] from h]; simp
  | v :: l, us, ⟨u, us', e, h1, h2⟩ => by
    have ih := run_vars h2
    unfold RunsTo at h1
    subst e
    simp only [List.mapM_cons, Sem.run_bind, Sem.run_pure, Result.andThen_ok, ih, h1]

def outVal : List Value → Value
  | [v] => v
  | vs => .tuple vs.toArray
theorem run_results {fn : Func} {tmps : Array Value} {w : World} {l : List Value} (h : RunsTos P tmps w fn.results.toList l) : Sem.run P (results fn tmps) w = Result.ok (outVal l) w := by
  have h1 := run_vars h
  unfold results
  rw [Array.mapM_eq_mapM_toList]
  simp only [Sem.run_bind, Sem.run_map]
  erw [h1]
  simp only [Result.andThen_ok]
  cases l with
  | nil => simp [outVal]
  | cons x l => cases l with
    | nil => simp [outVal]
    | cons y l => simp [outVal]

/-- The contract of a function that the evaluator has run. -/
theorem fn_spec {R : Type} {KR : List (Σ t : Ty, t.D) → Option R} {rr : R} {sig : FuncId → Option Sig} {caps : FuncId → List Ty} {orc : Orc} (hT : TabOk P T) (hO : OrcOk P sig orc) (hm : P.follows .mixedOrders = true) {dr : Array Oper → Env → (Env → Option R) → Option R} (hdraw : DrawHyp (R := R) T sig caps orc dr) {fuel : Nat} {ann : Nat → Option (List Nat)} {f : FuncId} {fn : Func} {code : Code} (hf : P.funcs[f]? = some fn) (hb : fn.body = some code) {sg : Sig} {args : List RV} {res : List (Σ t : Ty, t.D)}
    (hU : ∀ xs, KR xs = some rr → xs = res) (h : evFn T sig caps orc dr fuel ann sg fn code args KR = some rr) : FnSpec P f sg.results args res := by
  intro S w vals hargs
  unfold evFn at h
  split at h
  · rename_i as has
    split at h
    · rename_i hc
      obtain ⟨hle, hnd⟩ := hc
      have hen := entry hargs has hle
      refine calls_of_wp hf hb ?_
      refine evCode_sound hT hO hm hdraw (c := ⟨S, w.heap.size, w⟩) (N := fn.ntmps) (D := []) (K := endK T sg fn KR) code hen (by simp; omega) rfl (fun e env' a' w' hK hr' hl' hd' => ?_) h
      have fin : (match resN T env' sg.results fn.results.toList with | some xs => KR xs | none => none) = some rr → (a'.defers = [] ∧ ∃ v, (results fn a'.tmps).run P w' = .ok v w' ∧ (fun (e : Ending) (w' : World) => ∃ chs bs, e = .returned (resVal sg.results chs) ∧ Below w.heap.size w w' ∧ ResRel S w.heap.size w' bs sg.results res chs bs ∧ bs.Nodup ∧ ∀ b ∈ bs, w.heap.size ≤ b) (.returned v) w') := by
        intro hK
        have hres : resN T env' sg.results fn.results.toList = some res := by
          cases hx : resN T env' sg.results fn.results.toList with
          | none => rw [hx] at hK; simp at hK
          | some xs => rw [hx] at hK; rw [hU xs hK]
        obtain ⟨vs, hlen, cs, bs, hrel, hno⟩ := hr'
        let B := resB bs sg.results fn.results.toList
        have hB : ∀ b ∈ B, ∃ r l, b ∈ bs r l := fun b hb => by
          obtain ⟨i, p, v, l, _, _, _, h4⟩ := resB_mem hb
          exact ⟨_, _, h4⟩
        obtain ⟨chs, m1, m2⟩ := resN_rel hT (S := S) hlen hrel (fun b hb => hb) hB hres (fun i p v h1 h2 h3 l b hb hbB => by
          obtain ⟨i', p', v', l', k1, k2, k3, k4⟩ := resB_mem hbB
          have hdd := (hrel.disj _ _ _ _ _ hb k4).1
          have : i = i' := nodup_idx hnd (x := resTmp v) (by rw [List.getElem?_map, h2]; rfl) (by rw [List.getElem?_map, k2, hdd]; rfl)
          subst this
          rw [h1] at k1
          simp only [Option.some.injEq] at k1
          subst k1
          rw [h3] at k3
          simp at k3)
        refine ⟨hd', _, run_results m2, chs, B, rfl, hrel.below, m1, resB_nodup hrel hnd, fun b hb => ?_⟩
        · obtain ⟨r, l, h1⟩ := hB b hb
          exact (hrel.own _ _ _ h1).1
      cases e with
      | ret => exact fin hK
      | normal => exact fin hK
      | _ => simp [endK] at hK
    · simp at h
  · simp at h
end
end Go.FP

/- Orders: steps that each write one place may change their order. Conditions: none. -/
namespace Go.FP
open Go.RowKit
set_option linter.unusedVariables false
set_option linter.unusedSimpArgs false

abbrev Foot := Option (Nat × List Nat)
def Dis : Foot → Foot → Prop
  | some (t, R), some (t', R') => t ≠ t' ∧ t ∉ R' ∧ t' ∉ R
  | _, _ => False

theorem put_comm : ∀ (env : Env) {a b : Nat} (u v : AV), a ≠ b → put (put env a u) b v = put (put env b v) a u
  | [], a, b, u, v, h => by cases a <;> cases b <;> rfl
  | x :: env, 0, 0, u, v, h => absurd rfl h
  | x :: env, 0, b + 1, u, v, h => rfl
  | x :: env, a + 1, 0, u, v, h => rfl
  | x :: env, a + 1, b + 1, u, v, h => by
    show x :: put (put env a u) b v = x :: put (put env b v) a u
    rw [put_comm env u v (fun e => h (by rw [e]))]

section
variable (step : Nat → Env → Option Env) (foot : Nat → Env → Foot)
def Mild : Prop := ∀ i env t Rd env', foot i env = some (t, Rd) → step i env = some env' → ∃ v, env' = put env t v ∧ ∀ env2 : Env, env2.length = env.length → (∀ k ∈ t :: Rd, get env2 k = get env k) → step i env2 = some (put env2 t v) ∧ foot i env2 = some (t, Rd)
def Trace : List Nat → Env → Env → (Nat → Foot) → Prop
  | [], e, E, _ => e = E
  | i :: l, e, E, φ => foot i e = φ i ∧ ∃ e1, step i e = some e1 ∧ Trace l e1 E φ

variable {step foot}
theorem Trace.swap (hM : Mild step foot) {x y : Nat} {l : List Nat} {e E : Env} {φ : Nat → Foot} (h : Trace step foot (x :: y :: l) e E φ) (hd : Dis (φ x) (φ y)) : Trace step foot (y :: x :: l) e E φ := by
  obtain ⟨fx, e1, sx, fy, e2, sy, ht⟩ := h
  cases hφx : φ x with
  | none => rw [hφx] at hd; exact hd.elim
  | some p =>
    cases hφy : φ y with
    | none => rw [hφx, hφy] at hd; exact hd.elim
    | some q =>
      obtain ⟨t, R⟩ := p
      obtain ⟨t', R'⟩ := q
      rw [hφx, hφy] at hd
      obtain ⟨d1, d2, d3⟩ := hd
      rw [hφx] at fx
      rw [hφy] at fy
      obtain ⟨v, rfl, kx⟩ := hM x e t R e1 fx sx
      obtain ⟨v', rfl, ky⟩ := hM y (put e t v) t' R' e2 fy sy
      obtain ⟨a1, a2⟩ := ky e (put_length _ _ _).symm (fun k hk => by
        rw [get_put, if_neg]
        rintro ⟨rfl, _⟩
        rcases List.mem_cons.1 hk with hk | hk
        · exact d1 hk
        · exact d2 hk)
      obtain ⟨b1, b2⟩ := kx (put e t' v') (put_length _ _ _) (fun k hk => by
        rw [get_put, if_neg]
        rintro ⟨rfl, _⟩
        rcases List.mem_cons.1 hk with hk | hk
        · exact d1 hk.symm
        · exact d3 hk)
      refine ⟨a2.trans hφy.symm, _, a1, b2.trans hφx.symm, _, b1, ?_⟩
      rw [put_comm e v' v (fun h => d1 h.symm)]
      exact ht

theorem Trace.move (hM : Mild step foot) {x : Nat} {B : List Nat} {E : Env} {φ : Nat → Foot} : ∀ {A : List Nat} {e : Env}, Trace step foot (x :: (A ++ B)) e E φ → (∀ a ∈ A, Dis (φ x) (φ a)) → Trace step foot (A ++ x :: B) e E φ
  | [], e, h, _ => h
  | a :: A, e, h, hd => by
    obtain ⟨k1, e1, k2, k3⟩ := Trace.swap hM h (hd a (by simp))
    exact ⟨k1, e1, k2, Trace.move hM k3 (fun a' ha' => hd a' (by simp [ha']))⟩

theorem Trace.reorder (hM : Mild step foot) {E : Env} {φ : Nat → Foot} : ∀ {l π : List Nat} {e : Env}, l.Pairwise (· < ·) → π.Perm l → π.Pairwise (fun a x => x < a → Dis (φ x) (φ a)) → Trace step foot l e E φ → Trace step foot π e E φ
  | [], π, e, _, hp, _, h => by rw [List.Perm.eq_nil hp]; exact h
  | x :: l, π, e, hs, hp, hg, ⟨k1, e1, k2, k3⟩ => by
    have hx : x ∈ π := hp.symm.subset (by simp)
    obtain ⟨A, B, rfl⟩ := List.append_of_mem hx
    have hp' : (A ++ B).Perm l := by
      have h1 : (x :: (A ++ B)).Perm (x :: l) := List.perm_middle.symm.trans hp
      exact List.Perm.cons_inv h1
    have hs' := List.pairwise_cons.1 hs
    have hsub : (A ++ B).Sublist (A ++ x :: B) := List.Sublist.append_left (List.sublist_cons_self x B) A
    have hrec := Trace.reorder hM hs'.2 hp' (hg.sublist hsub) k3
    refine Trace.move hM ⟨k1, e1, k2, hrec⟩ (fun a ha => ?_)
    have hax : x < a := hs'.1 a (hp'.subset (List.mem_append_left _ ha))
    exact (List.pairwise_append.1 hg).2.2 a ha x (by simp) hax
end

/-! ### the orders that may come -/
def unl (n : Nat) (listed : Array Bool) : List Nat := (List.range n).filter fun i => !listed.getD i true

theorem linearise_acc (m : Region.Mode) (ops : Array Oper) : ∀ (fuel t : Nat) (listed : Array Bool) (acc : List Nat), Region.linearise.go m ops fuel t listed acc = acc.reverse ++ Region.linearise.go m ops fuel t listed [] := linearise_go_acc m ops

theorem unl_set {n : Nat} {listed : Array Bool} (hs : listed.size = n) {i : Nat} (hi : i ∈ unl n listed) : (unl n listed).Perm (i :: unl n (listed.setIfInBounds i true)) := by
  have hnd : (unl n listed).Nodup := List.Nodup.sublist List.filter_sublist List.nodup_range
  have hnd2 : (i :: unl n (listed.setIfInBounds i true)).Nodup := by
    refine List.nodup_cons.2 ⟨fun h => ?_, List.Nodup.sublist List.filter_sublist List.nodup_range⟩
    simp only [unl, List.mem_filter, List.mem_range] at h
    have : i < listed.size := by omega
    simp [this] at h
  refine (List.perm_ext_iff_of_nodup hnd hnd2).2 (fun k => ?_)
  simp only [unl, List.mem_filter, List.mem_range, List.mem_cons] at hi ⊢
  by_cases hk : k = i
  · subst hk
    constructor
    · intro _; exact .inl rfl
    · intro _; exact hi
  · have hki : ¬ i = k := fun h => hk h.symm
    constructor
    · intro ⟨h1, h2⟩
      refine .inr ⟨h1, ?_⟩
      have h1' : k < listed.size := by omega
      simp only [Array.getD_eq_getD_getElem?, Array.getElem?_setIfInBounds, if_neg hki] at h2 ⊢
      exact h2
    · rintro (h | ⟨h1, h2⟩)
      · exact absurd h hk
      · refine ⟨h1, ?_⟩
        simp only [Array.getD_eq_getD_getElem?, Array.getElem?_setIfInBounds, if_neg hki] at h2 ⊢
        exact h2

/-- Every order lists every operation, each behind those it waits for. -/
theorem go_spec (m : Region.Mode) (ops : Array Oper) (hback : ∀ (i : Nat) (o : Oper), ops[i]? = some o → ∀ e ∈ o.after, Region.binds m e = true → e.on < i) : ∀ (fuel t : Nat) (listed : Array Bool), listed.size = ops.size → (unl ops.size listed).length ≤ fuel →
    (Region.linearise.go m ops fuel t listed []).Perm (unl ops.size listed) ∧ ∀ (A : List Nat) (i : Nat) (B : List Nat), Region.linearise.go m ops fuel t listed [] = A ++ i :: B → ∀ (o : Oper), ops[i]? = some o → ∀ e ∈ o.after, Region.binds m e = true → listed.getD e.on false = true ∨ e.on ∈ A
  | 0, t, listed, hs, hl => by
    have : unl ops.size listed = [] := List.length_eq_zero_iff.1 (by omega)
    rw [this]
    exact ⟨by simp [Region.linearise.go], fun A i B h => by simp [Region.linearise.go] at h⟩
  | fuel + 1, t, listed, hs, hl => by
    rw [Region.linearise.go]
    let rs := (List.range ops.size).filter fun i => !listed.getD i true && ((ops[i]?).map (·.after.all fun e => !Region.binds m e || listed.getD e.on false)).getD false
    have hrs : ∀ i ∈ rs, i ∈ unl ops.size listed ∧ ∀ (o : Oper), ops[i]? = some o → ∀ e ∈ o.after, Region.binds m e = true → listed.getD e.on false = true := by
      intro i hi
      simp only [rs, List.mem_filter, Bool.and_eq_true] at hi
      obtain ⟨h1, h2, h3⟩ := hi
      refine ⟨by simp only [unl, List.mem_filter]; exact ⟨h1, h2⟩, fun o ho e he hb => ?_⟩
      rw [ho] at h3
      simp only [Option.map_some, Option.getD_some, Array.all_eq_true'] at h3
      have := h3 e he
      simpa [hb] using this
    show List.Perm (match rs[t % rs.length]? with | some i => Region.linearise.go m ops fuel (t / rs.length) (listed.setIfInBounds i true) [i] | none => [].reverse) _ ∧ _
    cases hu : unl ops.size listed with
    | nil =>
      have hrs0 : rs = [] := by
        apply List.eq_nil_iff_forall_not_mem.2
        intro i hi
        have := (hrs i hi).1
        rw [hu] at this
        simp at this
      have e0 : rs[t % rs.length]? = none := by rw [hrs0]; rfl
      refine ⟨by rw [e0]; exact List.Perm.refl _, fun A i B h => ?_⟩
      change (match rs[t % rs.length]? with | some i => Region.linearise.go m ops fuel (t / rs.length) (listed.setIfInBounds i true) [i] | none => [].reverse) = _ at h
      rw [e0] at h
      simp at h
    | cons i0 us =>
      have hi0 : i0 ∈ rs := by
        have hm0 : i0 ∈ unl ops.size listed := by rw [hu]; simp
        simp only [unl, List.mem_filter, List.mem_range] at hm0
        simp only [rs, List.mem_filter, List.mem_range, Bool.and_eq_true]
        refine ⟨hm0.1, hm0.2, ?_⟩
        rw [Array.getElem?_eq_getElem hm0.1]
        simp only [Option.map_some, Option.getD_some, Array.all_eq_true']
        intro e he
        apply Decidable.byContradiction
        intro hcon
        have hbe : Region.binds m e = true := by
          cases hb : Region.binds m e with
          | true => rfl
          | false => rw [hb] at hcon; simp at hcon
        apply hcon
        have hlt := hback i0 _ (Array.getElem?_eq_getElem hm0.1) e he hbe
        have : listed.getD e.on false = true := by
          apply Decidable.byContradiction
          intro hne
          have hsz : e.on < listed.size := by omega
          have hmem : e.on ∈ unl ops.size listed := by
            simp only [unl, List.mem_filter, List.mem_range]
            refine ⟨by omega, ?_⟩
            simp only [Array.getD_eq_getD_getElem?, Array.getElem?_eq_getElem hsz, Option.getD_some] at hne ⊢
            simpa using hne
          rw [hu] at hmem
          have hsorted : (i0 :: us).Pairwise (· < ·) := by
            rw [← hu]
            exact List.Pairwise.sublist List.filter_sublist List.pairwise_lt_range
          rcases List.mem_cons.1 hmem with h | h
          · omega
          · have := (List.pairwise_cons.1 hsorted).1 _ h
            omega
        rw [this]
        simp
      have hpos : 0 < rs.length := List.length_pos_of_mem hi0
      have hlt : t % rs.length < rs.length := Nat.mod_lt _ hpos
      let i := rs[t % rs.length]
      have ei : rs[t % rs.length]? = some i := List.getElem?_eq_getElem hlt
      have him : i ∈ rs := List.getElem_mem hlt
      obtain ⟨k1, k2⟩ := hrs i him
      have hperm := unl_set hs k1
      have hlen : (unl ops.size (listed.setIfInBounds i true)).length ≤ fuel := by
        have := hperm.length_eq
        simp only [List.length_cons] at this
        omega
      obtain ⟨g1, g2⟩ := go_spec m ops hback fuel (t / rs.length) (listed.setIfInBounds i true) (by simpa using hs) hlen
      have eg : Region.linearise.go m ops fuel (t / rs.length) (listed.setIfInBounds i true) [i] = i :: Region.linearise.go m ops fuel (t / rs.length) (listed.setIfInBounds i true) [] := by
        rw [linearise_acc]; rfl
      rw [← hu]
      refine ⟨by rw [ei]; simp only; rw [eg]; exact (List.Perm.cons i g1).trans hperm.symm, fun A j B h o ho e he hb => ?_⟩
      change (match rs[t % rs.length]? with | some i => Region.linearise.go m ops fuel (t / rs.length) (listed.setIfInBounds i true) [i] | none => [].reverse) = _ at h
      rw [ei] at h
      simp only at h
      rw [eg] at h
      cases A with
      | nil =>
        simp only [List.nil_append, List.cons.injEq] at h
        rw [← h.1] at ho
        exact .inl (k2 o ho e he hb)
      | cons a A =>
        simp only [List.cons_append, List.cons.injEq] at h
        obtain ⟨rfl, h⟩ := h
        rcases g2 A j B h o ho e he hb with h1 | h1
        · by_cases hea : e.on = i
          · exact .inr (by rw [hea]; simp)
          · left
            have hie : ¬ i = e.on := fun h => hea h.symm
            simp only [Array.getD_eq_getD_getElem?, Array.getElem?_setIfInBounds, if_neg hie] at h1 ⊢
            exact h1
        · exact .inr (List.mem_cons_of_mem _ h1)
end Go.FP

/- The continuation is used once. Conditions: none. -/
namespace Go.FP
open Go.RowKit
set_option linter.unusedVariables false
set_option linter.unusedSimpArgs false

section
variable {R : Type} {T : Tab} {sig : FuncId → Option Sig} {caps : FuncId → List Ty} {orc : Orc}

theorem intOp_bind (op : BinOp) (k : IntKind) (a b : Int) (K : AV → Option R) : intOp op k a b K = (intOp op k a b some).bind K := by
  unfold intOp
  repeat' split
  all_goals first | rfl | (cases h : decide (b = 0) <;> rfl) | skip

theorem strOp_bind (op : BinOp) (a b : ByteArray) (K : AV → Option R) : strOp op a b K = (strOp op a b some).bind K := by
  unfold strOp
  repeat' split
  all_goals first | rfl | (cases h : decide (a.size + b.size ≤ 140737488355328) <;> rfl)

theorem binOp1_bind (op : BinOp) (t : TypeId) (x y : AV) (K : AV → Option R) : binOp1 T op t x y K = (binOp1 T op t x y some).bind K := by
  unfold binOp1
  repeat' split
  all_goals first | rfl | exact intOp_bind _ _ _ _ _ | exact strOp_bind _ _ _ _

theorem unOp1_bind (op : UnOp) (x : AV) (K : AV → Option R) : unOp1 op x K = (unOp1 op x some).bind K := by
  unfold unOp1
  repeat' split
  all_goals first | rfl

theorem appendTo_bind (te : TE) (lv : Lvl) (s x : List te.ty.D) (K : Leaf → Option R) : appendTo te lv s x K = (appendTo te lv s x some).bind K := by
  unfold appendTo
  cases h : decide ((s.length + x.length) * te.bytes ≤ 140737488355328) <;> rfl

theorem cond_none_bind {b : Bool} {α β : Type} {x : Option α} {k : α → Option β} {y : Option β} (h : y = x.bind k) : (bif b then y else none) = (bif b then x else none).bind k := by
  cases b
  · rfl
  · exact h
theorem bind_of {α β γ : Type} {z : Option γ} {f : γ → Option α} {g : γ → Option β} {k : α → Option β} (h : ∀ c, g c = (f c).bind k) : z.bind g = (z.bind f).bind k := by
  cases z
  · rfl
  · exact h _

theorem appendTo_comp (te : TE) (lv : Lvl) (s x : List te.ty.D) (G : Leaf → Env) (K : Env → Option R) : appendTo te lv s x (fun l => K (G l)) = (appendTo te lv s x (fun l => some (G l))).bind K := by
  rw [appendTo_bind, appendTo_bind te lv s x (fun l => some (G l))]
  exact bind_of (fun _ => rfl)
theorem binOp1_comp (op : BinOp) (t : TypeId) (x y : AV) (G : AV → Env) (K : Env → Option R) : binOp1 T op t x y (fun l => K (G l)) = (binOp1 T op t x y (fun l => some (G l))).bind K := by
  rw [binOp1_bind, binOp1_bind op t x y (fun l => some (G l))]
  exact bind_of (fun _ => rfl)
theorem unOp1_comp (op : UnOp) (x : AV) (G : AV → Env) (K : Env → Option R) : unOp1 op x (fun l => K (G l)) = (unOp1 op x (fun l => some (G l))).bind K := by
  rw [unOp1_bind, unOp1_bind op x (fun l => some (G l))]
  exact bind_of (fun _ => rfl)

theorem appendS_bind (d : Option Nat) (te : TE) (s : Operand) (xs : List te.ty.D) (deep : Bool) (env : Env) (K : Env → Option R) : appendS d te s xs deep env K = (appendS d te s xs deep env some).bind K := by
  unfold appendS
  repeat' split
  all_goals first | rfl | exact appendTo_comp _ _ _ _ _ _

theorem append1_bind (d : Option Nat) (t : TypeId) (s x : Operand) (env : Env) (K : Env → Option R) : append1 T d t s x env K = (append1 T d t s x env some).bind K := by
  unfold append1
  repeat' split
  all_goals first | rfl | exact appendS_bind _ _ _ _ _ _ _

theorem appendN_bind (d : Nat) (te : TE) (r j : Nat) (i : Int) (o : Nat) (x : Operand) (env : Env) (K : Env → Option R) : appendN d te r j i o x env K = (appendN d te r j i o x env some).bind K := by
  unfold appendN
  repeat' split
  all_goals first | rfl | skip
  all_goals (refine cond_none_bind ?_; repeat' split)
  all_goals first | rfl | exact appendTo_comp _ _ _ _ _ _

theorem storeGrow_bind (s r j : Nat) (i : Int) (o : Nat) (l : Leaf) (a : Operand) (env : Env) (K : Env → Option R) : storeGrow s r j i o l a env K = (storeGrow s r j i o l a env some).bind K := by
  unfold storeGrow
  repeat' split
  all_goals first | rfl | (exact cond_none_bind rfl) | (refine cond_none_bind ?_; split <;> rfl)

theorem call1_bind (d : Option Nat) (f : FuncId) (args : List Operand) (extra : List AV) (env : Env) (K : Env → Option R) : call1 sig caps orc d f args extra env K = (call1 sig caps orc d f args extra env some).bind K := by
  unfold call1
  split
  · rfl
  · split
    · simp only
      split
      · split
        · rfl
        · split
          · rfl
          · exact bind_of (fun xs => by split <;> rfl)
      · rfl
    · rfl

theorem store1_bind (t : TypeId) (a v : Operand) (env : Env) (K : Env → Option R) : store1 T t a v env K = (store1 T t a v env some).bind K := by
  unfold store1
  split
  · split
    · exact storeGrow_bind _ _ _ _ _ _ _ _ _
    · rfl
  unfold storePlain
  repeat' split
  all_goals first | rfl | (refine cond_none_bind ?_; split <;> rfl) | (simp only; repeat' split) | skip
  all_goals first | rfl | exact cond_none_bind rfl

theorem evVal_bind (d : Nat) (o : Oper) (env : Env) (K : Env → Option R) : evVal T sig caps orc d o env K = (evVal T sig caps orc d o env some).bind K := by
  cases hop : o.op with
  | binOp op t x y t' => simp only [evVal, hop]; exact binOp1_comp _ _ _ _ _ _
  | unOp op t x => simp only [evVal, hop]; exact unOp1_comp _ _ _ _
  | pick cc a b =>
    simp only [evVal, hop]
    split
    · rename_i t _
      cases t <;> rfl
    · rfl
  | index t x i =>
    simp only [evVal, hop]
    split
    · exact bind_of (fun _ => rfl)
    · rfl
  | call cl =>
    simp only [evVal, hop]
    split
    · exact call1_bind _ _ _ _ _ _
    · split
      · exact call1_bind _ _ _ _ _ _
      · exact call1_bind _ _ _ _ _ _
      · rfl
    · repeat' split
      all_goals rfl
    · repeat' split
      all_goals first | rfl | exact append1_bind _ _ _ _ _ _ | exact appendN_bind _ _ _ _ _ _ _ _ _
    · repeat' split
      all_goals rfl
    · repeat' split
      all_goals rfl
    · rfl
  | makeFunc fn first captured =>
    cases fn with
    | func f =>
      simp only [evVal, hop]
      split
      · split
        · rfl
        · rfl
      · rfl
    | _ => simp only [evVal, hop]; rfl
  | slice t x lo hi mx =>
    simp only [evVal, hop]
    repeat' split
    all_goals first | rfl | exact cond_none_bind rfl
  | indexAddr t x i =>
    simp only [evVal, hop]
    repeat' split
    all_goals first | rfl | exact cond_none_bind rfl
  | makeSlice t l c =>
    simp only [evVal, hop]
    repeat' split
    all_goals first | rfl | exact cond_none_bind rfl
  | extract x i =>
    simp only [evVal, hop]
    repeat' split
    all_goals rfl
  | load t x =>
    simp only [evVal, hop]
    repeat' split
    all_goals rfl
  | fieldAddr t x f =>
    simp only [evVal, hop]
    repeat' split
    all_goals rfl
  | field t x f =>
    simp only [evVal, hop]
    repeat' split
    all_goals rfl
  | build t ps =>
    simp only [evVal, hop]
    repeat' split
    all_goals rfl
  | buildSlice t n ps =>
    simp only [evVal, hop]
    repeat' split
    all_goals rfl
  | convert t u x =>
    simp only [evVal, hop]
    repeat' split
    all_goals rfl
  | nilCheck x =>
    simp only [evVal, hop]
    repeat' split
    all_goals rfl
  | alloc e =>
    simp only [evVal, hop]
    repeat' split
    all_goals rfl
  | box e x =>
    simp only [evVal, hop]
    repeat' split
    all_goals rfl
  | assign x =>
    simp only [evVal, hop]
    repeat' split
    all_goals rfl
  | move x => simp only [evVal, hop]; rfl
  | _ => simp only [evVal, hop]; rfl

theorem evOp_bind (o : Oper) (env : Env) (K : Env → Option R) : evOp T sig caps orc o env K = (evOp T sig caps orc o env some).bind K := by
  unfold evOp
  repeat' split
  all_goals first | rfl | exact evVal_bind _ _ _ _ | exact store1_bind _ _ _ _ _

theorem skipOp_bind (o : Oper) (env : Env) (K : Env → Option R) : skipOp o env K = (skipOp o env some).bind K := by
  unfold skipOp
  repeat' split
  all_goals rfl

theorem evOps_cons (ops : Array Oper) (o : Oper) (rest : List Oper) (env : Env) (K : Env → Option R) : evOps T sig caps orc ops (o :: rest) env K = (evOps T sig caps orc ops [o] env some).bind fun env' => evOps T sig caps orc ops rest env' K := by
  simp only [evOps]
  split
  · exact evOp_bind _ _ _
  · split
    · rfl
    · split
      · exact skipOp_bind _ _ _
      · rename_i b _
        cases b
        · simp only [cond_false]
          split
          · exact skipOp_bind _ _ _
          · exact evOp_bind _ _ _
        · simp only [cond_true]
          split
          · exact evOp_bind _ _ _
          · exact skipOp_bind _ _ _
      · rfl
end
end Go.FP

/- Operations that only set their variable: what they read. Conditions: none. -/
namespace Go.FP
open Go.RowKit
set_option linter.unusedVariables false
set_option linter.unusedSimpArgs false

def rootsOf : AV → List Nat
  | .path r _ => [r]
  | .clo _ caps => caps.map (·.1)
  | _ => []
def opReads (env : Env) : Operand → List Nat
  | .tmp s => s :: rootsOf (get env s)
  | _ => []
def Agree (S : List Nat) (e1 e2 : Env) : Prop := e2.length = e1.length ∧ ∀ k ∈ S, get e2 k = get e1 k

theorem Agree.mono {S S' : List Nat} {e1 e2 : Env} (h : Agree S e1 e2) (hs : ∀ k ∈ S', k ∈ S) : Agree S' e1 e2 := ⟨h.1, fun k hk => h.2 k (hs k hk)⟩
theorem Agree.rd {env env2 : Env} {x : Operand} (h : Agree (opReads env x) env env2) (ty : Option Ty) : rd ty env2 x = rd ty env x := by
  cases x with
  | tmp s =>
    have := h.2 s (by simp [opReads])
    simp only [FP.rd, this]
  | _ => rfl
theorem Agree.reads {env env2 : Env} {x : Operand} (h : Agree (opReads env x) env env2) : opReads env2 x = opReads env x := by
  cases x with
  | tmp s =>
    have := h.2 s (by simp [opReads])
    simp only [opReads, this]
  | _ => rfl
theorem Agree.root {env env2 : Env} {x : Operand} {q off : Nat} (h : Agree (opReads env x) env env2) (ty : Option Ty) (hx : FP.rd ty env x = .path q off) : get env2 q = get env q ∨ (∃ s, x = .tmp s ∧ s = q) := by
  cases x with
  | tmp s =>
    simp only [FP.rd] at hx
    cases hg : get env s with
    | path r o =>
      rw [hg] at hx
      simp only [AV.path.injEq] at hx
      exact .inl (h.2 q (by simp [opReads, hg, rootsOf, hx.1]))
    | con k ls =>
      rw [hg] at hx
      cases k with
      | box e => simp only [AV.path.injEq] at hx; exact .inr ⟨s, rfl, hx.1⟩
      | _ => simp at hx
    | _ => rw [hg] at hx; simp at hx
  | const v =>
    exfalso
    have typed : ∀ ty, constAV ty v ≠ .path q off := by
      intro ty h
      unfold constAV at h
      split at h
      · simp at h
      · split at h
        · split at h
          · simp [mkCon] at h
          · simp at h
        · simp at h
    simp only [FP.rd] at hx
    split at hx <;> first | (simp at hx; done) | exact typed _ hx
  | func f => simp [FP.rd] at hx
  | global g => simp [FP.rd] at hx
theorem Agree.rootB {env env2 : Env} {x : Operand} {q off : Nat} (h : Agree (opReads env x) env env2) (ty : Option Ty) (hx : FP.rd ty env x = .path q off) : get env2 q = get env q := by
  rcases h.root ty hx with h1 | ⟨s, rfl, rfl⟩
  · exact h1
  · exact h.2 s (by simp [opReads])

/-- The operations that compute one value out of what they read. -/
def pureReads (env : Env) : Op → Option (List Nat)
  | .move x | .nilCheck x | .load _ x | .fieldAddr _ x _ | .field _ x _ | .unOp _ _ x | .convert _ _ x => some (opReads env x)
  | .pick c a b => some (opReads env c ++ (opReads env a ++ opReads env b))
  | .binOp _ _ x y _ | .indexAddr _ x y | .index _ x y | .makeSlice _ x y => some (opReads env x ++ opReads env y)
  | .alloc _ => some []
  | .makeFunc _ _ captured => some (captured.toList.flatMap (opReads env))
  | _ => none

section
variable {R : Type} {T : Tab} {sig : FuncId → Option Sig} {caps : FuncId → List Ty} {orc : Orc}

theorem binOp1_val {op : BinOp} {t : TypeId} {x y : AV} {G : AV → Env} {e : Env} (h : binOp1 T op t x y (fun v => some (G v)) = some e) : ∃ v, e = G v ∧ ∀ {A : Type} (K : AV → Option A), binOp1 T op t x y K = K v := by
  rw [binOp1_bind] at h
  obtain ⟨v, h1, h2⟩ := Option.bind_eq_some_iff.1 h
  exact ⟨v, (Option.some.inj h2).symm, fun K => by rw [binOp1_bind, h1]; rfl⟩
theorem unOp1_val {op : UnOp} {x : AV} {G : AV → Env} {e : Env} (h : unOp1 op x (fun v => some (G v)) = some e) : ∃ v, e = G v ∧ ∀ {A : Type} (K : AV → Option A), unOp1 op x K = K v := by
  rw [unOp1_bind] at h
  obtain ⟨v, h1, h2⟩ := Option.bind_eq_some_iff.1 h
  exact ⟨v, (Option.some.inj h2).symm, fun K => by rw [unOp1_bind, h1]; rfl⟩

theorem setD_quiet {env : Env} {d : Nat} (h : (get env d).quiet = true) (v : AV) : setD (some d) env v = put env d v := by
  simp only [setD, h, if_true]

theorem pure_mild {o : Oper} {d : Nat} {env e1 : Env} {Rd : List Nat} (hr : pureReads env o.op = some Rd) (hq : (get env d).quiet = true) (h : evVal T sig caps orc d o env some = some e1) :
    ∃ v, e1 = put env d v ∧ ∀ env2, Agree Rd env env2 → (get env2 d).quiet = true → evVal T sig caps orc d o env2 some = some (put env2 d v) ∧ pureReads env2 o.op = some Rd := by
  cases hop : o.op with
  | move x =>
    rw [hop] at hr
    simp only [pureReads, Option.some.injEq] at hr
    subst hr
    simp only [evVal, hop, Option.some.injEq] at h
    rw [setD_quiet hq] at h
    exact ⟨_, h.symm, fun env2 ha hq2 => ⟨by simp only [evVal, hop]; rw [ha.rd, setD_quiet hq2], by simp only [pureReads, ha.reads]⟩⟩
  | nilCheck x =>
    rw [hop] at hr
    simp only [pureReads, Option.some.injEq] at hr
    subst hr
    simp only [evVal, hop] at h
    split at h
    · rename_i q off hx
      simp only [Option.some.injEq] at h
      rw [setD_quiet hq] at h
      exact ⟨_, h.symm, fun env2 ha hq2 => ⟨by simp only [evVal, hop]; rw [ha.rd, hx]; simp only [setD_quiet hq2], by simp only [pureReads, ha.reads]⟩⟩
    · rename_i f cs hx
      simp only [Option.some.injEq] at h
      rw [setD_quiet hq] at h
      exact ⟨_, h.symm, fun env2 ha hq2 => ⟨by simp only [evVal, hop]; rw [ha.rd, hx]; simp only [setD_quiet hq2], by simp only [pureReads, ha.reads]⟩⟩
    · rename_i f cs hx
      simp only [Option.some.injEq] at h
      rw [setD_quiet hq] at h
      exact ⟨_, h.symm, fun env2 ha hq2 => ⟨by simp only [evVal, hop]; rw [ha.rd, hx]; simp only [setD_quiet hq2], by simp only [pureReads, ha.reads]⟩⟩
    · rename_i f cs hx
      simp only [Option.some.injEq] at h
      rw [setD_quiet hq] at h
      exact ⟨_, h.symm, fun env2 ha hq2 => ⟨by simp only [evVal, hop]; rw [ha.rd, hx]; simp only [setD_quiet hq2], by simp only [pureReads, ha.reads]⟩⟩
    · simp at h
  | load t x =>
    rw [hop] at hr
    simp only [pureReads, Option.some.injEq] at hr
    subst hr
    simp only [evVal, hop] at h
    split at h
    · rename_i τ ht
      split at h
      · rename_i q off hx
        split at h
        · rename_i e ls hb
          split at h
          · rename_i hty
            simp only [Option.some.injEq] at h
            rw [setD_quiet hq] at h
            exact ⟨_, h.symm, fun env2 ha hq2 => ⟨by simp only [evVal, hop]; rw [ht]; simp only; rw [ha.rd, hx]; simp only; rw [ha.rootB none hx, hb]; simp only; rw [if_pos hty, setD_quiet hq2], by simp only [pureReads, ha.reads]⟩⟩
          · simp at h
        · simp at h
      · rename_i ls wr hx
        split at h
        · rename_i hty
          simp only [Option.some.injEq] at h
          rw [setD_quiet hq] at h
          exact ⟨_, h.symm, fun env2 ha hq2 => ⟨by simp only [evVal, hop]; rw [ht]; simp only; rw [ha.rd, hx]; simp only; rw [if_pos hty, setD_quiet hq2], by simp only [pureReads, ha.reads]⟩⟩
        · simp at h
      · simp at h
    · simp at h
  | fieldAddr s x f =>
    rw [hop] at hr
    simp only [pureReads, Option.some.injEq] at hr
    subst hr
    simp only [evVal, hop] at h
    split at h
    · rename_i off τ hf
      split at h
      · rename_i q o' hx
        simp only [Option.some.injEq] at h
        rw [setD_quiet hq] at h
        exact ⟨_, h.symm, fun env2 ha hq2 => ⟨by simp only [evVal, hop]; rw [hf]; simp only; rw [ha.rd, hx]; simp only [setD_quiet hq2], by simp only [pureReads, ha.reads]⟩⟩
      · rename_i ls wr hx
        simp only [Option.some.injEq] at h
        rw [setD_quiet hq] at h
        exact ⟨_, h.symm, fun env2 ha hq2 => ⟨by simp only [evVal, hop]; rw [hf]; simp only; rw [ha.rd, hx]; simp only [setD_quiet hq2], by simp only [pureReads, ha.reads]⟩⟩
      · simp at h
    · simp at h
  | field s x f =>
    rw [hop] at hr
    simp only [pureReads, Option.some.injEq] at hr
    subst hr
    simp only [evVal, hop] at h
    split at h
    · rename_i off τ hf
      split at h
      · rename_i ls hx
        split at h
        · rename_i hty
          simp only [Option.some.injEq] at h
          rw [setD_quiet hq] at h
          exact ⟨_, h.symm, fun env2 ha hq2 => ⟨by simp only [evVal, hop]; rw [hf]; simp only; rw [ha.rd, hx]; simp only; rw [if_pos hty, setD_quiet hq2], by simp only [pureReads, ha.reads]⟩⟩
        · simp at h
      · simp at h
    · simp at h
  | unOp op t x =>
    rw [hop] at hr
    simp only [pureReads, Option.some.injEq] at hr
    subst hr
    simp only [evVal, hop] at h
    obtain ⟨v, rfl, hK⟩ := unOp1_val h
    exact ⟨v, setD_quiet hq v, fun env2 ha hq2 => ⟨by simp only [evVal, hop]; rw [ha.rd, hK, setD_quiet hq2], by simp only [pureReads, ha.reads]⟩⟩
  | convert s dt x =>
    rw [hop] at hr
    simp only [pureReads, Option.some.injEq] at hr
    subst hr
    simp only [evVal, hop] at h
    split at h
    · rename_i k k' k2 n hs ht hi
      simp only [Option.some.injEq] at h
      rw [setD_quiet hq] at h
      exact ⟨_, h.symm, fun env2 ha hq2 => ⟨by simp only [evVal, hop]; rw [hs, ht, ha.rd, hi]; simp only [setD_quiet hq2], by simp only [pureReads, ha.reads]⟩⟩
    · simp at h
  | pick cc x y =>
    rw [hop] at hr
    simp only [pureReads, Option.some.injEq] at hr
    subst hr
    simp only [evVal, hop] at h
    split at h
    · rename_i t hb
      cases t with
      | true =>
        simp only [cond_true, Option.some.injEq] at h
        rw [setD_quiet hq] at h
        refine ⟨_, h.symm, fun env2 ha hq2 => ?_⟩
        have h1 := ha.mono (S' := opReads env cc) (fun k hk => List.mem_append_left _ hk)
        have h2 := ha.mono (S' := opReads env x) (fun k hk => List.mem_append_right _ (List.mem_append_left _ hk))
        have h3 := ha.mono (S' := opReads env y) (fun k hk => List.mem_append_right _ (List.mem_append_right _ hk))
        exact ⟨by simp only [evVal, hop]; rw [h1.rd, hb]; simp only [cond_true]; rw [h2.rd, setD_quiet hq2], by simp only [pureReads, h1.reads, h2.reads, h3.reads]⟩
      | false =>
        simp only [cond_false, Option.some.injEq] at h
        rw [setD_quiet hq] at h
        refine ⟨_, h.symm, fun env2 ha hq2 => ?_⟩
        have h1 := ha.mono (S' := opReads env cc) (fun k hk => List.mem_append_left _ hk)
        have h2 := ha.mono (S' := opReads env x) (fun k hk => List.mem_append_right _ (List.mem_append_left _ hk))
        have h3 := ha.mono (S' := opReads env y) (fun k hk => List.mem_append_right _ (List.mem_append_right _ hk))
        exact ⟨by simp only [evVal, hop]; rw [h1.rd, hb]; simp only [cond_false]; rw [h3.rd, setD_quiet hq2], by simp only [pureReads, h1.reads, h2.reads, h3.reads]⟩
    · simp at h
  | binOp op t x y t' =>
    rw [hop] at hr
    simp only [pureReads, Option.some.injEq] at hr
    subst hr
    simp only [evVal, hop] at h
    obtain ⟨v, rfl, hK⟩ := binOp1_val h
    refine ⟨v, setD_quiet hq v, fun env2 ha hq2 => ?_⟩
    have h1 := ha.mono (S' := opReads env x) (fun k hk => List.mem_append_left _ hk)
    have h2 := ha.mono (S' := opReads env y) (fun k hk => List.mem_append_right _ hk)
    exact ⟨by simp only [evVal, hop]; rw [h1.rd, h2.rd, hK, setD_quiet hq2], by simp only [pureReads, h1.reads, h2.reads]⟩
  | indexAddr t x y =>
    rw [hop] at hr
    simp only [pureReads, Option.some.injEq] at hr
    subst hr
    simp only [evVal, hop] at h
    split at h
    · rename_i te he
      split at h
      · rename_i lx n hx hi
        split at h
        · rename_i xs hxs
          split at h
          · simp at h
          · rename_i hl
            obtain ⟨h0, h⟩ := bif_some h
            simp only [Option.some.injEq] at h
            rw [setD_quiet hq] at h
            refine ⟨_, h.symm, fun env2 ha hq2 => ?_⟩
            have h1 := ha.mono (S' := opReads env x) (fun k hk => List.mem_append_left _ hk)
            have h2 := ha.mono (S' := opReads env y) (fun k hk => List.mem_append_right _ hk)
            exact ⟨by simp only [evVal, hop]; rw [he]; simp only; rw [h1.rd, h2.rd, hx, hi]; simp only; rw [hxs]; simp only; rw [if_neg hl, h0]; simp only [cond_true, setD_quiet hq2], by simp only [pureReads, h1.reads, h2.reads]⟩
        · simp at h
      · simp at h
    · simp at h
  | index t x y =>
    rw [hop] at hr
    simp only [pureReads, Option.some.injEq] at hr
    subst hr
    simp only [evVal, hop] at h
    split at h
    · rename_i s k n ht hs hi
      obtain ⟨b, hb, h⟩ := Option.bind_eq_some_iff.1 h
      simp only [Option.some.injEq] at h
      rw [setD_quiet hq] at h
      refine ⟨_, h.symm, fun env2 ha hq2 => ?_⟩
      have h1 := ha.mono (S' := opReads env x) (fun k hk => List.mem_append_left _ hk)
      have h2 := ha.mono (S' := opReads env y) (fun k hk => List.mem_append_right _ hk)
      exact ⟨by simp only [evVal, hop]; rw [h1.rd, h2.rd, ht, hs, hi]; simp only; rw [hb]; simp only [Option.bind_some, setD_quiet hq2], by simp only [pureReads, h1.reads, h2.reads]⟩
    · simp at h
  | makeSlice t x y =>
    rw [hop] at hr
    simp only [pureReads, Option.some.injEq] at hr
    subst hr
    simp only [evVal, hop] at h
    split at h
    · rename_i te n m he hl hc
      obtain ⟨h0, h⟩ := bif_some h
      simp only [Option.some.injEq] at h
      rw [setD_quiet hq] at h
      refine ⟨_, h.symm, fun env2 ha hq2 => ?_⟩
      have h1 := ha.mono (S' := opReads env x) (fun k hk => List.mem_append_left _ hk)
      have h2 := ha.mono (S' := opReads env y) (fun k hk => List.mem_append_right _ hk)
      exact ⟨by simp only [evVal, hop]; rw [h1.rd, h2.rd, he, hl, hc]; simp only; rw [h0]; simp only [cond_true, setD_quiet hq2], by simp only [pureReads, h1.reads, h2.reads]⟩
    · simp at h
  | alloc e =>
    rw [hop] at hr
    simp only [pureReads, Option.some.injEq] at hr
    subst hr
    simp only [evVal, hop] at h
    split at h
    · rename_i τ he
      simp only [Option.some.injEq] at h
      rw [setD_quiet hq] at h
      exact ⟨_, h.symm, fun env2 ha hq2 => ⟨by simp only [evVal, hop]; rw [he]; simp only [setD_quiet hq2], rfl⟩⟩
    · simp at h
  | makeFunc fn first captured =>
    rw [hop] at hr
    simp only [pureReads, Option.some.injEq] at hr
    subst hr
    cases fn with
    | func f =>
      simp only [evVal, hop] at h
      split at h
      · rename_i hf
        split at h
        · rename_i cs hc
          simp only [Option.some.injEq] at h
          rw [setD_quiet hq] at h
          refine ⟨_, h.symm, fun env2 ha hq2 => ?_⟩
          have hx : ∀ x ∈ captured.toList, Agree (opReads env x) env env2 := fun x hx => ha.mono (fun k hk => List.mem_flatMap.2 ⟨x, hx, hk⟩)
          have hm : ∀ l : List Operand, (∀ x ∈ l, Agree (opReads env x) env env2) → l.mapM (fun x => match rd none env2 x with | .path r off => some (r, off) | _ => none) = l.mapM (fun x => match rd none env x with | .path r off => some (r, off) | _ => none) := by
            intro l hl
            induction l with
            | nil => rfl
            | cons x l ih =>
              rw [List.mapM_cons, List.mapM_cons, ih (fun y hy => hl y (List.mem_cons_of_mem _ hy)), (hl x List.mem_cons_self).rd]
          have hf2 : ∀ l : List Operand, (∀ x ∈ l, Agree (opReads env x) env env2) → l.flatMap (opReads env2) = l.flatMap (opReads env) := by
            intro l hl
            induction l with
            | nil => rfl
            | cons x l ih => rw [List.flatMap_cons, List.flatMap_cons, ih (fun y hy => hl y (List.mem_cons_of_mem _ hy)), (hl x List.mem_cons_self).reads]
          refine ⟨?_, by simp only [pureReads, hf2 _ hx]⟩
          simp only [evVal, hop]
          rw [if_pos hf]
          erw [(hm _ hx).trans hc]
          simp only [setD_quiet hq2]
        · simp at h
      · simp at h
    | _ => simp [evVal, hop] at h
  | _ => rw [hop] at hr; simp [pureReads] at hr
end
end Go.FP

/- More operations that only set their variable. Conditions: none. -/
namespace Go.FP
open Go.RowKit
set_option linter.unusedVariables false
set_option linter.unusedSimpArgs false

def Mode.isRo : Mode → Bool
  | .at_ .ro => true
  | _ => false
/-- Does a new owner take this operand in without any change of names? -/
def inert (env : Env) : Operand → Bool
  | .tmp s => match get env s with
    | .con k ls => k.plain && ls.all (fun l => l.m.isRo)
    | .undef => false
    | .grow _ _ _ _ _ => false
    | .junk => false
    | _ => true
  | _ => true

theorem isRo_eq {m : Mode} (h : m.isRo = true) : m = .at_ .ro := by
  cases m with
  | at_ lv => cases lv <;> simp [Mode.isRo] at h ⊢
  | _ => simp [Mode.isRo] at h

theorem freezeAll_ro : ∀ {ls : List Leaf} {env : Env}, ls.all (fun l => l.m.isRo) = true → freezeAll ls env = env
  | [], env, _ => rfl
  | l :: ls, env, h => by
    simp only [List.all_cons, Bool.and_eq_true] at h
    have hm := isRo_eq h.1
    unfold freezeAll
    rw [hm]
    exact freezeAll_ro h.2

theorem pull_ro {env : Env} {s q : Nat} {k : Kind} {ls : List Leaf} (hg : get env s = .con k ls) (hl : ls.all (fun l => l.m.isRo) = true) : pull s q env = env := by
  unfold pull
  rw [hg]
  simp only [AV.leaf?]
  split
  · rename_i t x r j hq
    have := isRo_eq (List.all_eq_true.1 hl _ (mem_leafAt hq))
    simp at this
  · rfl
theorem pulls_ro {env : Env} {s : Nat} {k : Kind} {ls : List Leaf} (hg : get env s = .con k ls) (hl : ls.all (fun l => l.m.isRo) = true) : ∀ n, pulls s n env = env
  | 0 => rfl
  | n + 1 => by rw [pulls, pulls_ro hg hl n, pull_ro hg hl]
theorem pullAll_ro {env : Env} {s : Nat} {k : Kind} {ls : List Leaf} (hg : get env s = .con k ls) (hl : ls.all (fun l => l.m.isRo) = true) : pullAll (.tmp s) env = env := by
  simp only [pullAll, hg]
  split
  · exact pulls_ro hg hl _
  · rfl
theorem takeIn_con {ty : Option Ty} {env : Env} {s : Nat} {k : Kind} {ls : List Leaf} (hg : get env s = .con k ls) (hk : k.plain = true) (hl : ls.all (fun l => l.m.isRo) = true) : takeIn ty env (.tmp s) = some (env, .con k ls) := by
  rw [takeIn, pullAll_ro hg hl]
  simp only [takeIn0, hg, hk, if_true, freezeAll_ro hl]
  have h1 : ls.all (fun l => l.m.settled) = true := List.all_eq_true.2 fun l hl' => by rw [isRo_eq (List.all_eq_true.1 hl l hl')]; rfl
  have h2 : ls.any (fun l => l.m.own) = false := by
    cases ha : ls.any (fun l => l.m.own) with
    | false => rfl
    | true =>
      obtain ⟨l, hl', ho⟩ := List.any_eq_true.1 ha
      rw [isRo_eq (List.all_eq_true.1 hl l hl')] at ho
      simp [Mode.own] at ho
  rw [if_pos (by exact ⟨trivial, h1⟩), h2]
  rfl

theorem takeIn_inert {env env2 : Env} {x : Operand} (h : inert env x = true) (ha : Agree (opReads env x) env env2) (ty : Option Ty) : ∃ av, takeIn ty env x = some (env, av) ∧ takeIn ty env2 x = some (env2, av) ∧ inert env2 x = true := by
  cases x with
  | tmp s =>
    have hg2 := ha.2 s (by simp [opReads])
    cases hg : get env s with
    | con k ls =>
      simp only [inert, hg, Bool.and_eq_true] at h
      rw [hg] at hg2
      exact ⟨_, takeIn_con hg h.1 h.2, takeIn_con hg2 h.1 h.2, by simp only [inert, hg2, Bool.and_eq_true]; exact h⟩
    | undef => simp [inert, hg] at h
    | grow _ _ _ _ _ => simp [inert, hg] at h
    | junk => simp [inert, hg] at h
    | skip => rw [hg] at hg2; exact ⟨.skip, by simp only [takeIn, pullAll, takeIn0, hg], by simp only [takeIn, pullAll, takeIn0, hg2], by simp only [inert, hg2]⟩
    | path r off => rw [hg] at hg2; exact ⟨.path r off, by simp only [takeIn, pullAll, takeIn0, hg], by simp only [takeIn, pullAll, takeIn0, hg2], by simp only [inert, hg2]⟩
    | eptr ls wr => rw [hg] at hg2; exact ⟨.eptr ls wr, by simp only [takeIn, pullAll, takeIn0, hg], by simp only [takeIn, pullAll, takeIn0, hg2], by simp only [inert, hg2]⟩
    | cloR f caps => rw [hg] at hg2; exact ⟨.cloR f caps, by simp only [takeIn, pullAll, takeIn0, hg], by simp only [takeIn, pullAll, takeIn0, hg2], by simp only [inert, hg2]⟩
    | clo f caps => rw [hg] at hg2; exact ⟨.clo f caps, by simp only [takeIn, pullAll, takeIn0, hg], by simp only [takeIn, pullAll, takeIn0, hg2], by simp only [inert, hg2]⟩
  | const v => exact ⟨_, rfl, rfl, rfl⟩
  | func f => exact ⟨_, rfl, rfl, rfl⟩
  | global g => exact ⟨_, rfl, rfl, rfl⟩

theorem takeAs_inert {env env1 env2 : Env} {x : Operand} {τ : Ty} {ls : List Leaf} (h : inert env x = true) (ha : Agree (opReads env x) env env2) (ht : takeAs τ env x = some (env1, ls)) : env1 = env ∧ takeAs τ env2 x = some (env2, ls) ∧ inert env2 x = true := by
  obtain ⟨av, h1, h2, h3⟩ := takeIn_inert h ha (some τ)
  unfold takeAs at ht ⊢
  rw [h1] at ht
  rw [h2]
  split at ht
  · rename_i e k ls' heq
    simp only [Option.some.injEq, Prod.mk.injEq] at heq
    obtain ⟨rfl, rfl⟩ := heq
    split at ht
    · rename_i hc
      simp only [Option.some.injEq, Prod.mk.injEq] at ht
      obtain ⟨rfl, rfl⟩ := ht
      exact ⟨rfl, by simp only; rw [if_pos hc], h3⟩
    · simp at ht
  · simp at ht

theorem elemParts_inert {t : Ty} {env2 : Env} : ∀ {parts : List (Nat × Operand)} {env env' : Env} {n : Nat} {xs : List t.D} {dp : Bool}, (∀ p ∈ parts, inert env p.2 = true) → (∀ p ∈ parts, Agree (opReads env p.2) env env2) → elemParts t env n parts = some (env', xs, dp) → env' = env ∧ elemParts t env2 n parts = some (env2, xs, dp)
  | [], env, env', n, xs, dp, _, _, h => by
    simp only [elemParts, Option.some.injEq, Prod.mk.injEq] at h ⊢
    exact ⟨h.1.symm, trivial, h.2⟩
  | (i, x) :: parts, env, env', n, xs, dp, hi, ha, h => by
    simp only [elemParts] at h ⊢
    split at h
    · rename_i hin
      rw [if_pos hin]
      cases hta : takeAs t env x with
      | none => rw [hta] at h; simp at h
      | some q =>
        obtain ⟨env1, l⟩ := q
        obtain ⟨e1, k2, _⟩ := takeAs_inert (hi _ List.mem_cons_self) (ha _ List.mem_cons_self) hta
        subst e1
        rw [hta] at h
        rw [k2]
        simp only at h ⊢
        split at h
        · rename_i v hv
          split at h
          · rename_i e2 vs d hrec
            obtain ⟨rfl, k3⟩ := elemParts_inert (fun p hp => hi p (List.mem_cons_of_mem _ hp)) (fun p hp => ha p (List.mem_cons_of_mem _ hp)) hrec
            rw [k3]
            simp only [Option.some.injEq, Prod.mk.injEq] at h ⊢
            exact ⟨h.1.symm, trivial, h.2⟩
          · simp at h
        · simp at h
    · simp at h

theorem buildParts_inert {T : Tab} {t : TypeId} {env2 : Env} : ∀ {parts : List (Nat × Operand)} {env env' : Env} {ls ls' : List Leaf}, (∀ p ∈ parts, inert env p.2 = true) → (∀ p ∈ parts, Agree (opReads env p.2) env env2) → buildParts T t env ls parts = some (env', ls') → env' = env ∧ buildParts T t env2 ls parts = some (env2, ls')
  | [], env, env', ls, ls', _, _, h => by
    simp only [buildParts, Option.some.injEq, Prod.mk.injEq] at h ⊢
    exact ⟨h.1.symm, trivial, h.2⟩
  | (f, x) :: parts, env, env', ls, ls', hi, ha, h => by
    simp only [buildParts] at h ⊢
    split at h
    · rename_i off τ hf
      cases hta : takeAs τ env x with
      | none => rw [hta] at h; simp at h
      | some q =>
        obtain ⟨env1, l⟩ := q
        obtain ⟨e1, k2, _⟩ := takeAs_inert (hi _ List.mem_cons_self) (ha _ List.mem_cons_self) hta
        subst e1
        rw [hta] at h
        rw [k2]
        simp only at h ⊢
        split at h
        · rename_i hle
          rw [if_pos hle]
          exact buildParts_inert (fun p hp => hi p (List.mem_cons_of_mem _ hp)) (fun p hp => ha p (List.mem_cons_of_mem _ hp)) h
        · simp at h
    · simp at h

/-! ### calls -/
theorem rd_roots (ty : Option Ty) (env : Env) (x : Operand) : ∀ q ∈ rootsOf (rd ty env x), q ∈ opReads env x := by
  have typed : ∀ ty v, rootsOf (constAV ty v) = [] := by
    intro ty v
    unfold constAV
    split
    · rfl
    · split
      · split <;> rfl
      · rfl
  cases x with
  | tmp s =>
    intro q hq
    simp only [rd] at hq
    cases hg : get env s with
    | con k ls => rw [hg] at hq; cases k <;> simp [rootsOf] at hq ⊢ <;> simp [opReads, hq]
    | path r off => rw [hg] at hq; simp [rootsOf] at hq; simp [opReads, hg, rootsOf, hq]
    | clo f cs => rw [hg] at hq; simp only [opReads, hg]; exact List.mem_cons_of_mem _ hq
    | _ => rw [hg] at hq; simp [rootsOf] at hq
  | const v =>
    intro q hq
    simp only [rd] at hq
    split at hq <;> first | (simp [rootsOf] at hq; done) | (rw [typed] at hq; simp at hq)
  | func f => intro q hq; simp [rd, rootsOf] at hq
  | global g => intro q hq; simp [rd, rootsOf] at hq

theorem capsOf_agree {env env2 : Env} : ∀ {cs : List (Nat × Nat)} {ts : List Ty}, (∀ p ∈ cs, get env2 p.1 = get env p.1) → capsOf env2 cs ts = capsOf env cs ts
  | [], [], _ => rfl
  | [], t :: ts, _ => rfl
  | p :: cs, [], _ => rfl
  | (q, off) :: cs, t :: ts, h => by
    have h1 := h (q, off) List.mem_cons_self
    simp only [capsOf, capsOf_agree (ts := ts) (fun p hp => h p (List.mem_cons_of_mem _ hp))]
    have : ptrOf env2 t q off = ptrOf env t q off := by
      unfold ptrOf
      have h1 : get env2 q = get env q := h1
      rw [h1]
    rw [this]

theorem RVs_agree {caps : FuncId → List Ty} {env env2 : Env} : ∀ {ps : List PTy} {vs : List AV}, (∀ v ∈ vs, ∀ q ∈ rootsOf v, get env2 q = get env q) → RVs caps env2 ps vs = RVs caps env ps vs
  | [], [], _ => rfl
  | [], v :: vs, _ => rfl
  | p :: ps, [], _ => rfl
  | p :: ps, v :: vs, h => by
    have h1 := h v List.mem_cons_self
    have : RVof caps env2 p v = RVof caps env p v := by
      unfold RVof
      split
      · rfl
      · rename_i t q off
        have h2 : get env2 q = get env q := h1 q (by simp [rootsOf])
        unfold ptrOf
        rw [h2]
      · rfl
      · rfl
      · rename_i f cs
        rw [capsOf_agree (fun p hp => h1 p.1 (by simp only [rootsOf]; exact List.mem_map.2 ⟨p, hp, rfl⟩))]
      · rfl
    simp only [RVs, this, RVs_agree (ps := ps) (fun v hv => h v (List.mem_cons_of_mem _ hv))]

theorem rdArgs_agree {env env2 : Env} : ∀ {ps : List PTy} {xs : List Operand}, (∀ x ∈ xs, Agree (opReads env x) env env2) → rdArgs env2 ps xs = rdArgs env ps xs
  | [], xs, _ => by cases xs <;> rfl
  | p :: ps, [], _ => rfl
  | p :: ps, x :: xs, h => by
    simp only [rdArgs]
    rw [(h x List.mem_cons_self).rd, rdArgs_agree (fun y hy => h y (List.mem_cons_of_mem _ hy))]
theorem rdArgs_roots {env : Env} : ∀ {ps : List PTy} {xs : List Operand}, ∀ v ∈ rdArgs env ps xs, ∀ q ∈ rootsOf v, ∃ x ∈ xs, q ∈ opReads env x
  | [], xs, v, hv => by cases xs <;> simp [rdArgs] at hv
  | p :: ps, [], v, hv => by simp [rdArgs] at hv
  | p :: ps, x :: xs, v, hv => by
    simp only [rdArgs, List.mem_cons] at hv
    intro q hq
    rcases hv with rfl | hv
    · exact ⟨x, List.mem_cons_self, rd_roots _ _ _ q hq⟩
    · obtain ⟨y, hy, h⟩ := rdArgs_roots v hv q hq
      exact ⟨y, List.mem_cons_of_mem _ hy, h⟩

section
variable {T : Tab} {sig : FuncId → Option Sig} {caps : FuncId → List Ty} {orc : Orc}

def freshSig (sig : FuncId → Option Sig) (f : FuncId) : Bool := match sig f with
  | some sg => allFresh sg.results
  | none => false

theorem call1_fresh {d : Nat} {f : FuncId} {args : List Operand} {extra : List AV} {env e1 env2 : Env} (hf : freshSig sig f = true) (hq : (get env d).quiet = true) (h : call1 sig caps orc (some d) f args extra env some = some e1) :
    ∃ v, e1 = put env d v ∧ ∀ env2, (∀ x ∈ args, Agree (opReads env x) env env2) → (∀ v ∈ extra, ∀ q ∈ rootsOf v, get env2 q = get env q) → (get env2 d).quiet = true → call1 sig caps orc (some d) f args extra env2 some = some (put env2 d v) := by
  unfold call1 at h
  split at h
  · simp at h
  · rename_i sg hsg
    have haf : allFresh sg.results = true := by simpa [freshSig, hsg] using hf
    split at h
    · rename_i hm
      simp only at h
      split at h
      · rename_i hc
        split at h
        · simp at h
        · rename_i rvs hrv
          split at h
          · simp at h
          rename_i q hq'
          obtain ⟨xs, hxs, h⟩ := Option.bind_eq_some_iff.1 h
          split at h
          · simp at h
          · rename_i v hv
            simp only [Option.some.injEq] at h
            rw [setD_quiet hq] at h
            refine ⟨v, h.symm, fun env2 ha he hq2 => ?_⟩
            have hrd := rdArgs_agree (ps := sg.params) ha
            have hrv2 : RVs caps env2 sg.params (rdArgs env sg.params args ++ extra) = some rvs := by
              rw [RVs_agree, hrv]
              intro v hv q hq
              rcases List.mem_append.1 hv with hv | hv
              · obtain ⟨x, hx, hqx⟩ := rdArgs_roots v hv q hq
                exact (ha x hx).2 q hqx
              · exact he v hv q hq
            unfold call1
            rw [hsg]
            simp only [hm, hrd]
            rw [if_pos hc, hrv2]
            simp only [hq', hxs, Option.bind_some, hv]
            rw [if_pos haf, setD_quiet hq2]
      · simp at h
    · simp at h
end
end Go.FP

/- Footprints. Conditions: none. -/
namespace Go.FP
open Go.RowKit
set_option linter.unusedVariables false
set_option linter.unusedSimpArgs false

def allReads (env : Env) (xs : List Operand) : List Nat := xs.flatMap (opReads env)

def footVal (sig : FuncId → Option Sig) (env : Env) (d : Nat) (o : Oper) : Foot :=
  if (get env d).quiet then
    match pureReads env o.op with
    | some Rd => some (d, Rd)
    | none => match o.op with
      | .assign x => if inert env x then some (d, opReads env x) else none
      | .box _ x => if inert env x then some (d, opReads env x) else none
      | .build _ ps => if ps.toList.all (fun p => inert env p.2) then some (d, allReads env (ps.toList.map (·.2))) else none
      | .buildSlice _ _ ps => if ps.toList.all (fun p => inert env p.2) then some (d, allReads env (ps.toList.map (·.2))) else none
      | .slice _ x lo hi _ => if inert env x then some (d, opReads env x ++ allReads env (lo.toList ++ hi.toList)) else none
      | .extract x _ => match x with
        | .tmp s => match get env s with
          | .con (.tup _) ls => if ls.all (fun l => !l.m.own) then some (d, [s]) else none
          | _ => none
        | _ => none
      | .call c => match c.callee with
        | .value (.func f) => if freshSig sig f then some (d, allReads env c.args.toList) else none
        | .value (.tmp t) => match get env t with
          | .clo f _ => if freshSig sig f then some (d, opReads env (.tmp t) ++ allReads env c.args.toList) else none
          | _ => none
        | .builtin .len => some (d, allReads env c.args.toList)
        | .builtin .max => some (d, allReads env c.args.toList)
        | .builtin .min => some (d, allReads env c.args.toList)
        | _ => none
      | _ => none
  else none

theorem allReads_agree {env env2 : Env} : ∀ {xs : List Operand}, Agree (allReads env xs) env env2 → (∀ x ∈ xs, Agree (opReads env x) env env2) ∧ allReads env2 xs = allReads env xs
  | [], _ => ⟨by simp, rfl⟩
  | x :: xs, h => by
    have h1 := h.mono (S' := opReads env x) (fun k hk => by simp only [allReads, List.flatMap_cons]; exact List.mem_append_left _ hk)
    have h2 := h.mono (S' := allReads env xs) (fun k hk => by simp only [allReads, List.flatMap_cons]; exact List.mem_append_right _ hk)
    obtain ⟨k1, k2⟩ := allReads_agree h2
    refine ⟨fun y hy => ?_, ?_⟩
    · rcases List.mem_cons.1 hy with rfl | hy
      · exact h1
      · exact k1 y hy
    · simp only [allReads, List.flatMap_cons] at k2 ⊢
      rw [h1.reads, k2]

theorem inert_nest {env : Env} {x : Operand} (h : inert env x = true) : nestB env x = false := by
  cases x with
  | tmp s =>
    cases hg : get env s with
    | con k ls =>
      simp only [inert, hg, Bool.and_eq_true] at h
      have : (ls.any fun l => l.m.nested) = false := by
        rw [List.any_eq_false]
        intro l hl
        rw [isRo_eq (List.all_eq_true.1 h.2 l hl)]
        simp [Mode.nested]
      simp [nestB, hg, this]
    | _ => simp [nestB, hg]
  | _ => rfl
theorem optInt_agree {env env2 : Env} : ∀ {lo : Option Operand}, (∀ x ∈ lo.toList, Agree (opReads env x) env env2) → optInt env2 lo = optInt env lo
  | none, _ => rfl
  | some x, h => by simp only [optInt]; rw [(h x (by simp)).rd]
theorem freeze_inert {env : Env} {x : Operand} {ty : Option Ty} {lx : Leaf} (h : inert env x = true) (hx : rd ty env x = .con .val [lx]) (e : Env) : freezeAll [lx] e = e := by
  have hm : lx.m.settled = true := by
    cases x with
    | tmp s =>
      cases hg : get env s with
      | con k ls =>
        simp only [inert, hg, Bool.and_eq_true] at h
        cases k with
        | val =>
          simp only [rd, hg, AV.con.injEq, true_and] at hx
          cases ls with
          | nil => simp [borrowFrom] at hx
          | cons l ls =>
            simp only [borrowFrom, List.cons.injEq] at hx
            have hl : l.m.isRo = true := List.all_eq_true.1 h.2 l (by simp)
            rw [isRo_eq hl] at hx
            simp only [Mode.own, Bool.false_eq_true, if_false] at hx
            rw [← hx.1, isRo_eq hl]
            rfl
        | agg => simp [rd, hg] at hx
        | tup sh => simp [rd, hg] at hx
        | box e => simp [rd, hg] at hx
      | _ => simp [rd, hg] at hx
    | const v => exact takeIn_settled (ty := ty) (env := env) (env' := env) (x := .const v) (k := .val) (ls := [lx]) (by rw [← hx]; rfl) lx (by simp)
    | func f => simp [rd] at hx
    | global g => simp [rd] at hx
  simp only [freezeAll]
  split
  · rename_i hb; rw [hb] at hm; simp [Mode.settled] at hm
  · rfl

section
variable {T : Tab} {sig : FuncId → Option Sig} {caps : FuncId → List Ty} {orc : Orc}

theorem footVal_mild {o : Oper} {d t : Nat} {env e1 : Env} {Rd : List Nat} (hf : footVal sig env d o = some (t, Rd)) (h : evVal T sig caps orc d o env some = some e1) :
    t = d ∧ ∃ v, e1 = put env d v ∧ ∀ env2, Agree (d :: Rd) env env2 → evVal T sig caps orc d o env2 some = some (put env2 d v) ∧ footVal sig env2 d o = some (d, Rd) := by
  unfold footVal at hf
  split at hf
  · rename_i hq
    have quiet2 : ∀ {env2 : Env} {S : List Nat}, Agree (d :: S) env env2 → (get env2 d).quiet = true := fun ha => by rw [ha.2 d List.mem_cons_self]; exact hq
    have tail : ∀ {env2 : Env} {S : List Nat}, Agree (d :: S) env env2 → Agree S env env2 := fun ha => ha.mono (fun k hk => List.mem_cons_of_mem _ hk)
    cases hp : pureReads env o.op with
    | some Rd0 =>
      rw [hp] at hf
      simp only [Option.some.injEq, Prod.mk.injEq] at hf
      obtain ⟨rfl, rfl⟩ := hf
      obtain ⟨v, e, k⟩ := pure_mild hp hq h
      refine ⟨rfl, v, e, fun env2 ha => ?_⟩
      obtain ⟨k1, k2⟩ := k env2 (tail ha) (quiet2 ha)
      exact ⟨k1, by unfold footVal; rw [if_pos (quiet2 ha), k2]⟩
    | none =>
      rw [hp] at hf
      simp only at hf
      have none2 : ∀ env2 : Env, pureReads env2 o.op = none := by
        intro env2
        cases hop : o.op <;> rw [hop] at hp <;> simp [pureReads] at hp ⊢
      cases hop : o.op with
      | assign x =>
        rw [hop] at hf
        simp only at hf
        split at hf
        · rename_i hi
          simp only [Option.some.injEq, Prod.mk.injEq] at hf
          obtain ⟨rfl, rfl⟩ := hf
          simp only [evVal, hop] at h
          obtain ⟨av, k1, _, _⟩ := takeIn_inert hi (env2 := env) ⟨rfl, fun _ _ => rfl⟩ (T.ty o.type)
          rw [inert_nest hi, k1] at h
          simp only [Bool.false_eq_true, if_false, Option.some.injEq] at h
          rw [setD_quiet hq] at h
          refine ⟨rfl, av, h.symm, fun env2 ha => ?_⟩
          obtain ⟨av', k1', k2', k3'⟩ := takeIn_inert hi (tail ha) (T.ty o.type)
          rw [k1] at k1'
          simp only [Option.some.injEq, Prod.mk.injEq] at k1'
          refine ⟨by simp only [evVal, hop]; rw [inert_nest k3', k2']; simp only [Bool.false_eq_true, if_false]; rw [setD_quiet (quiet2 ha), ← k1'.2], ?_⟩
          unfold footVal
          rw [if_pos (quiet2 ha), none2 env2]
          simp only [hop, k3', if_true, (tail ha).reads]
        · simp at hf
      | box e x =>
        rw [hop] at hf
        simp only at hf
        split at hf
        · rename_i hi
          simp only [Option.some.injEq, Prod.mk.injEq] at hf
          obtain ⟨rfl, rfl⟩ := hf
          simp only [evVal, hop] at h
          split at h
          · rename_i τ he
            split at h
            · rename_i env' ls hta
              obtain ⟨rfl, _, _⟩ := takeAs_inert hi (env2 := env) ⟨rfl, fun _ _ => rfl⟩ hta
              simp only [Option.some.injEq] at h
              rw [setD_quiet hq] at h
              refine ⟨rfl, _, h.symm, fun env2 ha => ?_⟩
              obtain ⟨_, k2', k3'⟩ := takeAs_inert hi (tail ha) hta
              refine ⟨by simp only [evVal, hop]; rw [he]; simp only; rw [k2']; simp only; rw [setD_quiet (quiet2 ha)], ?_⟩
              unfold footVal
              rw [if_pos (quiet2 ha), none2 env2]
              simp only [hop, k3', if_true, (tail ha).reads]
            · simp at h
          · simp at h
        · simp at hf
      | build t' ps =>
        rw [hop] at hf
        simp only at hf
        split at hf
        · rename_i hi
          simp only [Option.some.injEq, Prod.mk.injEq] at hf
          obtain ⟨rfl, rfl⟩ := hf
          have hi' : ∀ p ∈ ps.toList, inert env p.2 = true := fun p hp => List.all_eq_true.1 hi p hp
          simp only [evVal, hop] at h
          split at h
          · rename_i τ he
            split at h
            · rename_i hag
              split at h
              · rename_i env' ls hb
                obtain ⟨rfl, _⟩ := buildParts_inert hi' (env2 := env) (fun _ _ => ⟨rfl, fun _ _ => rfl⟩) hb
                simp only [Option.some.injEq] at h
                rw [setD_quiet hq] at h
                refine ⟨rfl, _, h.symm, fun env2 ha => ?_⟩
                obtain ⟨a1, a2⟩ := allReads_agree (tail ha)
                have a1' : ∀ p ∈ ps.toList, Agree (opReads env' p.2) env' env2 := fun p hp => a1 _ (List.mem_map.2 ⟨p, hp, rfl⟩)
                obtain ⟨_, k2⟩ := buildParts_inert hi' a1' hb
                have hi2 : ps.toList.all (fun p => inert env2 p.2) = true := List.all_eq_true.2 fun p hp => (takeIn_inert (hi' p hp) (a1' p hp) none).choose_spec.2.2
                refine ⟨by simp only [evVal, hop]; rw [he]; simp only; rw [if_pos hag, k2]; simp only; rw [setD_quiet (quiet2 ha)], ?_⟩
                unfold footVal
                rw [if_pos (quiet2 ha), none2 env2]
                simp only [hop, hi2, if_true, a2]
              · simp at h
            · simp at h
          · simp at h
        · simp at hf
      | buildSlice t' n ps =>
        rw [hop] at hf
        simp only at hf
        split at hf
        · rename_i hi
          simp only [Option.some.injEq, Prod.mk.injEq] at hf
          obtain ⟨rfl, rfl⟩ := hf
          have hi' : ∀ p ∈ ps.toList, inert env p.2 = true := fun p hp => List.all_eq_true.1 hi p hp
          simp only [evVal, hop] at h
          split at h
          · rename_i te he
            split at h
            · rename_i hc
              split at h
              · rename_i env' xs dp hb
                obtain ⟨rfl, _⟩ := elemParts_inert hi' (env2 := env) (fun _ _ => ⟨rfl, fun _ _ => rfl⟩) hb
                simp only [Option.some.injEq] at h
                rw [setD_quiet hq] at h
                refine ⟨rfl, _, h.symm, fun env2 ha => ?_⟩
                obtain ⟨a1, a2⟩ := allReads_agree (tail ha)
                have a1' : ∀ p ∈ ps.toList, Agree (opReads env' p.2) env' env2 := fun p hp => a1 _ (List.mem_map.2 ⟨p, hp, rfl⟩)
                obtain ⟨_, k2⟩ := elemParts_inert hi' a1' hb
                have hi2 : ps.toList.all (fun p => inert env2 p.2) = true := List.all_eq_true.2 fun p hp => (takeIn_inert (hi' p hp) (a1' p hp) none).choose_spec.2.2
                refine ⟨by simp only [evVal, hop]; rw [he]; simp only; rw [if_pos hc, k2]; simp only; rw [setD_quiet (quiet2 ha)], ?_⟩
                unfold footVal
                rw [if_pos (quiet2 ha), none2 env2]
                simp only [hop, hi2, if_true, a2]
              · simp at h
            · simp at h
          · simp at h
        · simp at hf
      | slice t' x lo hi mx =>
        rw [hop] at hf
        simp only at hf
        split at hf
        · rename_i hin
          simp only [Option.some.injEq, Prod.mk.injEq] at hf
          obtain ⟨rfl, rfl⟩ := hf
          have key : ∀ env2, Agree (d :: (opReads env x ++ allReads env (lo.toList ++ hi.toList))) env env2 → footVal sig env2 d o = some (d, opReads env x ++ allReads env (lo.toList ++ hi.toList)) ∧ (∀ ty, rd ty env2 x = rd ty env x) ∧ optInt env2 lo = optInt env lo ∧ optInt env2 hi = optInt env hi := fun env2 ha => by
            have a0 := (tail ha).mono (S' := opReads env x) (fun k hk => List.mem_append_left _ hk)
            obtain ⟨a1, a2⟩ := allReads_agree ((tail ha).mono (fun k hk => List.mem_append_right _ hk))
            obtain ⟨_, _, _, a3⟩ := takeIn_inert hin a0 none
            refine ⟨?_, fun ty => a0.rd ty, optInt_agree (fun y hy => a1 y (by simp at hy ⊢; simp [hy])), optInt_agree (fun y hy => a1 y (by simp at hy ⊢; simp [hy]))⟩
            unfold footVal
            rw [if_pos (quiet2 ha), none2 env2]
            simp only [hop, a3, if_true, a0.reads, a2]
          simp only [evVal, hop] at h
          split at h
          · simp at h
          · split at h
            · rename_i va vb hva hvb
              split at h
              · rename_i sx hsx
                split at h
                · rename_i hty
                  have hc : (decide (0 ≤ va.getD 0) && (decide (va.getD 0 ≤ vb.getD (sx.size : Int)) && decide (vb.getD (sx.size : Int) ≤ (sx.size : Int)))) = true := by
                    cases hcc : (decide (0 ≤ va.getD 0) && (decide (va.getD 0 ≤ vb.getD (sx.size : Int)) && decide (vb.getD (sx.size : Int) ≤ (sx.size : Int)))) with
                    | true => rfl
                    | false => rw [hcc] at h; simp at h
                  rw [hc] at h
                  simp only [cond_true, Option.some.injEq] at h
                  rw [setD_quiet hq] at h
                  refine ⟨rfl, _, h.symm, fun env2 ha => ?_⟩
                  obtain ⟨b1, b2, b3, b4⟩ := key env2 ha
                  refine ⟨?_, b1⟩
                  simp only [evVal, hop, b2, b3, b4, hva, hvb, hsx, hty, hc, cond_true]
                  rw [setD_quiet (quiet2 ha)]
                · simp at h
              · rename_i hsx
                split at h
                · rename_i te hte
                  split at h
                  · rename_i lx hrd
                    split at h
                    · rename_i xs has
                      split at h
                      · simp at h
                      · rename_i hl
                        have hc : (decide (0 ≤ va.getD 0) && (decide (va.getD 0 ≤ vb.getD (xs.length : Int)) && decide (vb.getD (xs.length : Int) ≤ (xs.length : Int)))) = true := by
                          cases hcc : (decide (0 ≤ va.getD 0) && (decide (va.getD 0 ≤ vb.getD (xs.length : Int)) && decide (vb.getD (xs.length : Int) ≤ (xs.length : Int)))) with
                          | true => rfl
                          | false => rw [hcc] at h; simp at h
                        rw [hc] at h
                        simp only [cond_true, Option.some.injEq] at h
                        rw [freeze_inert hin hrd, setD_quiet hq] at h
                        refine ⟨rfl, _, h.symm, fun env2 ha => ?_⟩
                        obtain ⟨b1, b2, b3, b4⟩ := key env2 ha
                        refine ⟨?_, b1⟩
                        simp only [evVal, hop, b2, b3, b4, hva, hvb, hsx, hte, hrd, has, hc, cond_true]
                        rw [if_neg hl, freeze_inert hin hrd, setD_quiet (quiet2 ha)]
                    · simp at h
                  · simp at h
                · simp at h
            · simp at h
        · simp at hf
      | extract x i =>
        rw [hop] at hf
        simp only at hf
        split at hf
        · rename_i s
          split at hf
          · rename_i sh ls hs
            split at hf
            · rename_i hno
              simp only [Option.some.injEq, Prod.mk.injEq] at hf
              obtain ⟨rfl, rfl⟩ := hf
              simp only [evVal, hop, hs] at h
              split at h
              · rename_i off agg n ho
                have hany : (takeLs n (dropLs off ls)).any (fun l => l.m.own) = false := by
                  cases ha : (takeLs n (dropLs off ls)).any (fun l => l.m.own) with
                  | false => rfl
                  | true =>
                    obtain ⟨l, hl, hlo⟩ := List.any_eq_true.1 ha
                    rw [takeLs_eq, dropLs_eq] at hl
                    have := List.all_eq_true.1 hno l (List.mem_of_mem_drop (List.mem_of_mem_take hl))
                    rw [hlo] at this
                    simp at this
                split at h
                · rename_i hlive
                  simp only [hany, Bool.false_eq_true, if_false, Option.some.injEq] at h
                  rw [setD_quiet hq] at h
                  refine ⟨rfl, _, h.symm, fun env2 ha => ?_⟩
                  have hs2 : get env2 s = .con (.tup sh) ls := (ha.2 s (by simp)).trans hs
                  refine ⟨by simp only [evVal, hop, hs2, ho]; rw [if_pos hlive]; simp only [hany, Bool.false_eq_true, if_false]; rw [setD_quiet (quiet2 ha)], ?_⟩
                  unfold footVal
                  rw [if_pos (quiet2 ha), none2 env2]
                  simp only [hop, hs2, hno, if_true]
                · simp at h
              · simp at h
            · simp at hf
          · simp at hf
        · simp at hf
      | call cl =>
        rw [hop] at hf
        simp only at hf
        split at hf
        · rename_i f hc
          split at hf
          · rename_i hfr
            simp only [Option.some.injEq, Prod.mk.injEq] at hf
            obtain ⟨rfl, rfl⟩ := hf
            simp only [evVal, hop, hc] at h
            obtain ⟨v, e, k⟩ := call1_fresh (env2 := env) hfr hq h
            refine ⟨rfl, v, e, fun env2 ha => ?_⟩
            obtain ⟨a1, a2⟩ := allReads_agree (tail ha)
            refine ⟨by simp only [evVal, hop, hc]; exact k env2 a1 (by simp) (quiet2 ha), ?_⟩
            unfold footVal
            rw [if_pos (quiet2 ha), none2 env2]
            simp only [hop, hc, hfr, if_true, a2]
          · simp at hf
        · rename_i t' hc
          split at hf
          · rename_i f cs ht
            split at hf
            · rename_i hfr
              simp only [Option.some.injEq, Prod.mk.injEq] at hf
              obtain ⟨rfl, rfl⟩ := hf
              simp only [evVal, hop, hc, ht] at h
              obtain ⟨v, e, k⟩ := call1_fresh (env2 := env) hfr hq h
              refine ⟨rfl, v, e, fun env2 ha => ?_⟩
              have hb := (tail ha).mono (S' := opReads env (.tmp t')) (fun k hk => List.mem_append_left _ hk)
              obtain ⟨a1, a2⟩ := allReads_agree ((tail ha).mono (fun k hk => List.mem_append_right _ hk))
              have ht2 : get env2 t' = .clo f cs := (hb.2 t' (by simp [opReads])).trans ht
              refine ⟨by
                simp only [evVal, hop, hc, ht2]
                refine k env2 a1 (fun v hv q hq => ?_) (quiet2 ha)
                simp only [List.mem_map] at hv
                obtain ⟨p, hp, rfl⟩ := hv
                simp only [rootsOf, List.mem_singleton] at hq
                refine hb.2 q ?_
                simp only [opReads, ht, rootsOf]
                exact List.mem_cons_of_mem _ (List.mem_map.2 ⟨p, hp, hq.symm⟩), ?_⟩
              unfold footVal
              rw [if_pos (quiet2 ha), none2 env2]
              simp only [hop, hc, ht2, hfr, if_true, a2, hb.reads]
            · simp at hf
          · simp at hf
        · rename_i hc
          simp only [Option.some.injEq, Prod.mk.injEq] at hf
          obtain ⟨rfl, rfl⟩ := hf
          have key : ∀ env2, Agree (d :: allReads env cl.args.toList) env env2 → footVal sig env2 d o = some (d, allReads env cl.args.toList) := fun env2 ha => by
            unfold footVal
            rw [if_pos (quiet2 ha), none2 env2]
            simp only [hop, hc, (allReads_agree (tail ha)).2]
          simp only [evVal, hop, hc] at h
          split at h
          · rename_i x t' hargs htys
            have hx : ∀ env2, Agree (d :: allReads env cl.args.toList) env env2 → Agree (opReads env x) env env2 := fun env2 ha => (allReads_agree (tail ha)).1 x (by rw [hargs]; simp)
            split at h
            · rename_i s hs
              split at h
              · rename_i ht
                simp only [Option.some.injEq] at h
                rw [setD_quiet hq] at h
                exact ⟨rfl, _, h.symm, fun env2 ha => ⟨by simp only [evVal, hop, hc, hargs, htys]; rw [(hx env2 ha).rd, hs]; simp only; rw [ht]; simp only; rw [setD_quiet (quiet2 ha)], key env2 ha⟩⟩
              · simp at h
            · rename_i hs
              split at h
              · rename_i e τ ht
                split at h
                · rename_i lx hrd
                  split at h
                  · rename_i xs hxs
                    split at h
                    · rename_i hl
                      simp only [Option.some.injEq] at h
                      rw [setD_quiet hq] at h
                      exact ⟨rfl, _, h.symm, fun env2 ha => ⟨by simp only [evVal, hop, hc, hargs, htys]; rw [(hx env2 ha).rd, hs]; simp only; rw [ht]; simp only; rw [(hx env2 ha).rd, hrd]; simp only; rw [hxs]; simp only; rw [if_pos hl, setD_quiet (quiet2 ha)], key env2 ha⟩⟩
                    · simp at h
                  · simp at h
                · simp at h
              · simp at h
          · simp at h
        · rename_i hc
          simp only [Option.some.injEq, Prod.mk.injEq] at hf
          obtain ⟨rfl, rfl⟩ := hf
          simp only [evVal, hop, hc] at h
          split at h
          · rename_i x y hargs
            split at h
            · rename_i k n k' m hx hy
              split at h
              · rename_i hkk
                simp only [Option.some.injEq] at h
                rw [setD_quiet hq] at h
                refine ⟨rfl, _, h.symm, fun env2 ha => ?_⟩
                obtain ⟨a1, a2⟩ := allReads_agree (tail ha)
                refine ⟨by simp only [evVal, hop, hc, hargs]; rw [(a1 x (by rw [hargs]; simp)).rd, (a1 y (by rw [hargs]; simp)).rd, hx, hy]; simp only; rw [if_pos hkk, setD_quiet (quiet2 ha)], ?_⟩
                unfold footVal
                rw [if_pos (quiet2 ha), none2 env2]
                simp only [hop, hc, a2]
              · simp at h
            · simp at h
          · simp at h
        · rename_i hc
          simp only [Option.some.injEq, Prod.mk.injEq] at hf
          obtain ⟨rfl, rfl⟩ := hf
          simp only [evVal, hop, hc] at h
          split at h
          · rename_i x y hargs
            split at h
            · rename_i k n k' m hx hy
              split at h
              · rename_i hkk
                simp only [Option.some.injEq] at h
                rw [setD_quiet hq] at h
                refine ⟨rfl, _, h.symm, fun env2 ha => ?_⟩
                obtain ⟨a1, a2⟩ := allReads_agree (tail ha)
                refine ⟨by simp only [evVal, hop, hc, hargs]; rw [(a1 x (by rw [hargs]; simp)).rd, (a1 y (by rw [hargs]; simp)).rd, hx, hy]; simp only; rw [if_pos hkk, setD_quiet (quiet2 ha)], ?_⟩
                unfold footVal
                rw [if_pos (quiet2 ha), none2 env2]
                simp only [hop, hc, a2]
              · simp at h
            · simp at h
          · simp at h
        · simp at hf
      | _ => rw [hop] at hf; simp at hf
  · simp at hf
end
end Go.FP

/- Regions with open order. Conditions: none. -/
namespace Go.FP
open Go.RowKit
set_option linter.unusedVariables false
set_option linter.unusedSimpArgs false

def Foot.reads (xs : List Nat) : Foot → Foot
  | some (t, R) => some (t, xs ++ R)
  | none => none
def footRun (sig : FuncId → Option Sig) (o : Oper) (env : Env) : Foot := match o.dst with
  | some d => footVal sig env d o
  | none => none
def footSkip (o : Oper) (env : Env) : Foot := match o.dst with
  | some d => if (get env d).quiet then some (d, []) else none
  | none => none
/-- The footprint of an operation, its guard looked at. -/
def footG (sig : FuncId → Option Sig) (ops : Array Oper) (o : Oper) (env : Env) : Foot := match o.guard with
  | none => footRun sig o env
  | some (j, want) => match (ops[j]?).bind (·.dst) with
    | none => none
    | some dj => match get env dj with
      | .skip => Foot.reads [dj] (footSkip o env)
      | .con .val [⟨.bool, b, .at_ .ro⟩] => if b = want then Foot.reads [dj] (footRun sig o env) else Foot.reads [dj] (footSkip o env)
      | _ => none

section
variable {T : Tab} {sig : FuncId → Option Sig} {caps : FuncId → List Ty} {orc : Orc}

theorem footRun_mild {o : Oper} {t : Nat} {env e1 : Env} {Rd : List Nat} (hf : footRun sig o env = some (t, Rd)) (h : evOp T sig caps orc o env some = some e1) :
    ∃ v, e1 = put env t v ∧ ∀ env2, Agree (t :: Rd) env env2 → evOp T sig caps orc o env2 some = some (put env2 t v) ∧ footRun sig o env2 = some (t, Rd) := by
  unfold footRun at hf
  unfold evOp at h
  split at hf
  · rename_i d hd
    rw [hd] at h
    simp only at h
    split at h
    · rename_i hlt
      obtain ⟨rfl, v, e, k⟩ := footVal_mild hf h
      refine ⟨v, e, fun env2 ha => ?_⟩
      obtain ⟨k1, k2⟩ := k env2 ha
      exact ⟨by unfold evOp; rw [hd]; simp only; rw [if_pos (by rw [ha.1]; exact hlt)]; exact k1, by unfold footRun; rw [hd]; exact k2⟩
    · simp at h
  · simp at hf

theorem footSkip_mild {o : Oper} {t : Nat} {env e1 : Env} {Rd : List Nat} (hf : footSkip o env = some (t, Rd)) (h : skipOp o env some = some e1) :
    ∃ v, e1 = put env t v ∧ ∀ env2, Agree (t :: Rd) env env2 → skipOp o env2 some = some (put env2 t v) ∧ footSkip o env2 = some (t, Rd) := by
  unfold footSkip at hf
  unfold skipOp at h
  split at hf
  · rename_i d hd
    rw [hd] at h
    simp only at h
    split at hf
    · rename_i hq
      simp only [Option.some.injEq, Prod.mk.injEq] at hf
      obtain ⟨rfl, rfl⟩ := hf
      split at h
      · rename_i hlt
        simp only [Option.some.injEq] at h
        rw [setD_quiet hq] at h
        refine ⟨_, h.symm, fun env2 ha => ?_⟩
        have hq2 : (get env2 d).quiet = true := by rw [ha.2 d List.mem_cons_self]; exact hq
        exact ⟨by unfold skipOp; rw [hd]; simp only; rw [if_pos (by rw [ha.1]; exact hlt), setD_quiet hq2], by unfold footSkip; rw [hd]; simp only; rw [if_pos hq2]⟩
      · simp at h
    · simp at hf
  · simp at hf

theorem reads_some {xs : List Nat} {f : Foot} {t : Nat} {Rd : List Nat} (h : Foot.reads xs f = some (t, Rd)) : ∃ R, f = some (t, R) ∧ Rd = xs ++ R := by
  cases f with
  | none => simp [Foot.reads] at h
  | some p =>
    obtain ⟨t', R⟩ := p
    simp only [Foot.reads, Option.some.injEq, Prod.mk.injEq] at h
    exact ⟨R, by rw [h.1], h.2.symm⟩

theorem footG_mild {ops : Array Oper} {o : Oper} {t : Nat} {env e1 : Env} {Rd : List Nat} (hf : footG sig ops o env = some (t, Rd)) (h : evOps T sig caps orc ops [o] env some = some e1) :
    ∃ v, e1 = put env t v ∧ ∀ env2, Agree (t :: Rd) env env2 → evOps T sig caps orc ops [o] env2 some = some (put env2 t v) ∧ footG sig ops o env2 = some (t, Rd) := by
  simp only [evOps] at h
  unfold footG at hf
  cases hg : o.guard with
  | none =>
    rw [hg] at h hf
    simp only at h hf
    obtain ⟨v, e, k⟩ := footRun_mild hf h
    refine ⟨v, e, fun env2 ha => ?_⟩
    obtain ⟨k1, k2⟩ := k env2 ha
    exact ⟨by simp only [evOps, hg]; exact k1, by unfold footG; rw [hg]; exact k2⟩
  | some g =>
    obtain ⟨j, want⟩ := g
    rw [hg] at h hf
    simp only at h hf
    cases hj : (ops[j]?).bind (·.dst) with
    | none => rw [hj] at h; simp at h
    | some dj =>
      rw [hj] at h hf
      simp only at h hf
      have split2 : ∀ {R : List Nat} {env2 : Env}, Rd = [dj] ++ R → Agree (t :: Rd) env env2 → get env2 dj = get env dj ∧ Agree (t :: R) env env2 := by
        intro R env2 hR ha
        subst hR
        exact ⟨ha.2 dj (by simp), ha.mono (fun k hk => by
          rcases List.mem_cons.1 hk with rfl | hk
          · simp
          · simp [hk])⟩
      split at h
      · rename_i hs
        rw [hs] at hf
        simp only at hf
        obtain ⟨R, hf1, hR⟩ := reads_some hf
        obtain ⟨v, e, k⟩ := footSkip_mild hf1 h
        refine ⟨v, e, fun env2 ha => ?_⟩
        obtain ⟨a1, a2⟩ := split2 hR ha
        rw [hs] at a1
        obtain ⟨k1, k2⟩ := k env2 a2
        exact ⟨by simp only [evOps, hg, hj, a1]; exact k1, by unfold footG; rw [hg]; simp only [hj, a1, k2, Foot.reads, hR]⟩
      · rename_i b hs
        rw [hs] at hf
        simp only at hf
        have hput : put env dj (vBool b) = env := put_self hs
        have fin : ∀ (b' : Bool), b' = b → (if b' = want then evOp T sig caps orc o env some else skipOp o env some) = some e1 → ∃ v, e1 = put env t v ∧ ∀ env2, Agree (t :: Rd) env env2 → evOps T sig caps orc ops [o] env2 some = some (put env2 t v) ∧ footG sig ops o env2 = some (t, Rd) := by
          intro b' hb' hh
          subst hb'
          by_cases hw : b' = want
          · rw [if_pos hw] at hh hf
            obtain ⟨R, hf1, hR⟩ := reads_some hf
            obtain ⟨v, e, k⟩ := footRun_mild hf1 hh
            refine ⟨v, e, fun env2 ha => ?_⟩
            obtain ⟨a1, a2⟩ := split2 hR ha
            rw [hs] at a1
            obtain ⟨k1, k2⟩ := k env2 a2
            have hput2 : put env2 dj (vBool b') = env2 := put_self a1
            refine ⟨?_, by unfold footG; rw [hg]; simp only [hj, a1, k2, Foot.reads, hR]; rw [if_pos hw]⟩
            simp only [evOps, hg, hj, a1]
            subst hw
            cases b' with
            | true => simp only [cond_true, if_true]; rw [hput2]; exact k1
            | false => simp only [cond_false, Bool.false_eq_true, if_false]; rw [hput2]; exact k1
          · rw [if_neg hw] at hh hf
            obtain ⟨R, hf1, hR⟩ := reads_some hf
            obtain ⟨v, e, k⟩ := footSkip_mild hf1 hh
            refine ⟨v, e, fun env2 ha => ?_⟩
            obtain ⟨a1, a2⟩ := split2 hR ha
            rw [hs] at a1
            obtain ⟨k1, k2⟩ := k env2 a2
            have hput2 : put env2 dj (vBool b') = env2 := put_self a1
            refine ⟨?_, by unfold footG; rw [hg]; simp only [hj, a1, k2, Foot.reads, hR]; rw [if_neg hw]⟩
            simp only [evOps, hg, hj, a1]
            cases b' with
            | true => cases want with
              | true => exact absurd rfl hw
              | false => simp only [cond_true, Bool.false_eq_true, if_false]; rw [hput2]; exact k1
            | false => cases want with
              | true => simp only [cond_false, if_true]; rw [hput2]; exact k1
              | false => exact absurd rfl hw
        refine fin b rfl ?_
        cases b with
        | true =>
          simp only [cond_true] at h
          rw [hput] at h
          cases want with
          | true => simpa using h
          | false => simpa using h
        | false =>
          simp only [cond_false] at h
          rw [hput] at h
          cases want with
          | true => simpa using h
          | false => simpa using h
      · simp at h

/-- Step and footprint of an operation by its number. -/
def stepI (T : Tab) (sig : FuncId → Option Sig) (caps : FuncId → List Ty) (orc : Orc) (ops : Array Oper) (i : Nat) (env : Env) : Option Env := match ops[i]? with
  | some o => evOps T sig caps orc ops [o] env some
  | none => none
def footI (sig : FuncId → Option Sig) (ops : Array Oper) (i : Nat) (env : Env) : Foot := match ops[i]? with
  | some o => footG sig ops o env
  | none => none
theorem mildI (ops : Array Oper) : Mild (stepI T sig caps orc ops) (footI sig ops) := by
  intro i env t Rd env' hf hs
  unfold stepI at hs
  unfold footI at hf
  cases ho : ops[i]? with
  | none => rw [ho] at hs; simp at hs
  | some o =>
    rw [ho] at hs hf
    simp only at hs hf
    obtain ⟨v, e, k⟩ := footG_mild hf hs
    refine ⟨v, e, fun env2 hl ha => ?_⟩
    obtain ⟨k1, k2⟩ := k env2 ⟨hl, ha⟩
    exact ⟨by unfold stepI; rw [ho]; exact k1, by unfold footI; rw [ho]; exact k2⟩

theorem trace_ev {R : Type} {ops : Array Oper} {φ : Nat → Foot} {E : Env} {K : Env → Option R} {r : R} (hK : K E = some r) : ∀ {l : List Nat} {env : Env}, Trace (stepI T sig caps orc ops) (footI sig ops) l env E φ → evOps T sig caps orc ops (l.filterMap (ops[·]?)) env K = some r
  | [], env, h => by
    have h : env = E := h
    subst h
    exact hK
  | i :: l, env, ⟨_, e1, h1, h2⟩ => by
    unfold stepI at h1
    cases ho : ops[i]? with
    | none => rw [ho] at h1; simp at h1
    | some o =>
      rw [ho] at h1
      simp only at h1
      rw [List.filterMap_cons_some (by exact ho), evOps_cons, h1]
      exact trace_ev hK h2
end
end Go.FP

/- The evaluator of regions with open order. Conditions: none. -/
namespace Go.FP
open Go.RowKit
set_option linter.unusedVariables false
set_option linter.unusedSimpArgs false

def ancMask (ms : List Nat) : List Edge → Nat
  | [] => 0
  | e :: r => if Region.binds .any e then (2 ^ e.on ||| ms.getD e.on 0) ||| ancMask ms r else ancMask ms r
def notIn (t : Nat) : List Nat → Bool
  | [] => true
  | x :: r => !(Nat.beq x t) && notIn t r
def disB : Foot → Foot → Bool
  | some (t, R), some (t', R') => !(Nat.beq t t') && (notIn t R' && notIn t' R)
  | _, _ => false
def okAll (mask : Nat) : Nat → List Foot → Foot → Bool
  | _, [], _ => true
  | i, f :: fs, g => (mask.testBit i || disB f g) && okAll mask (i + 1) fs g

section
variable {R : Type} (T : Tab) (sig : FuncId → Option Sig) (caps : FuncId → List Ty) (orc : Orc)

def evDraw (ops : Array Oper) : List Oper → List Nat → List Foot → Env → (Env → Option R) → Option R
  | [], _, _, env, K => K env
  | o :: rest, ms, fs, env, K =>
    let mask := ancMask ms o.after.toList
    if o.after.toList.all (fun e => !Region.binds .any e || decide (e.on < ms.length)) then
      match o.guard with
      | none => if okAll mask 0 fs (footRun sig o env) then evOp T sig caps orc o env fun env' => evDraw ops rest (ms ++ [mask]) (fs ++ [footRun sig o env]) env' K else none
      | some (j, want) => match (ops[j]?).bind (·.dst) with
        | none => none
        | some dj => match get env dj with
          | .skip => if okAll mask 0 fs (Foot.reads [dj] (footSkip o env)) then skipOp o env fun env' => evDraw ops rest (ms ++ [mask]) (fs ++ [Foot.reads [dj] (footSkip o env)]) env' K else none
          | .con .val [⟨.bool, b, .at_ .ro⟩] => bif b
              then (if want then (if okAll mask 0 fs (Foot.reads [dj] (footRun sig o (put env dj (vBool true)))) then evOp T sig caps orc o (put env dj (vBool true)) fun env' => evDraw ops rest (ms ++ [mask]) (fs ++ [Foot.reads [dj] (footRun sig o (put env dj (vBool true)))]) env' K else none)
                else (if okAll mask 0 fs (Foot.reads [dj] (footSkip o (put env dj (vBool true)))) then skipOp o (put env dj (vBool true)) fun env' => evDraw ops rest (ms ++ [mask]) (fs ++ [Foot.reads [dj] (footSkip o (put env dj (vBool true)))]) env' K else none))
              else (if want then (if okAll mask 0 fs (Foot.reads [dj] (footSkip o (put env dj (vBool false)))) then skipOp o (put env dj (vBool false)) fun env' => evDraw ops rest (ms ++ [mask]) (fs ++ [Foot.reads [dj] (footSkip o (put env dj (vBool false)))]) env' K else none)
                else (if okAll mask 0 fs (Foot.reads [dj] (footRun sig o (put env dj (vBool false)))) then evOp T sig caps orc o (put env dj (vBool false)) fun env' => evDraw ops rest (ms ++ [mask]) (fs ++ [Foot.reads [dj] (footRun sig o (put env dj (vBool false)))]) env' K else none))
          | _ => none
    else none
def drawReg (ops : Array Oper) (env : Env) (K : Env → Option R) : Option R := evDraw T sig caps orc ops ops.toList [] [] env K
end

section
variable {R : Type} {T : Tab} {sig : FuncId → Option Sig} {caps : FuncId → List Ty} {orc : Orc}

/-- One step of it, seen from outside. -/
theorem evDraw_cons {ops : Array Oper} {o : Oper} {rest : List Oper} {ms : List Nat} {fs : List Foot} {env : Env} {K : Env → Option R} {r : R} (h : evDraw T sig caps orc ops (o :: rest) ms fs env K = some r) :
    (∀ e ∈ o.after.toList, Region.binds .any e = true → e.on < ms.length) ∧ okAll (ancMask ms o.after.toList) 0 fs (footG sig ops o env) = true ∧ ∃ e1, evOps T sig caps orc ops [o] env some = some e1 ∧ evDraw T sig caps orc ops rest (ms ++ [ancMask ms o.after.toList]) (fs ++ [footG sig ops o env]) e1 K = some r := by
  simp only [evDraw] at h
  split at h
  · rename_i hb
    refine ⟨fun e he hbe => by have := List.all_eq_true.1 hb e he; rw [hbe] at this; simpa using this, ?_⟩
    have run : ∀ {f : Foot} {X : Env}, (if okAll (ancMask ms o.after.toList) 0 fs f = true then evOp T sig caps orc o X fun env' => evDraw T sig caps orc ops rest (ms ++ [ancMask ms o.after.toList]) (fs ++ [f]) env' K else none) = some r →
        okAll (ancMask ms o.after.toList) 0 fs f = true ∧ ∃ e1, evOp T sig caps orc o X some = some e1 ∧ evDraw T sig caps orc ops rest (ms ++ [ancMask ms o.after.toList]) (fs ++ [f]) e1 K = some r := by
      intro f X h
      split at h
      · rename_i hok
        rw [evOp_bind] at h
        obtain ⟨e1, h1, h2⟩ := Option.bind_eq_some_iff.1 h
        exact ⟨hok, e1, h1, h2⟩
      · simp at h
    have skp : ∀ {f : Foot} {X : Env}, (if okAll (ancMask ms o.after.toList) 0 fs f = true then skipOp o X fun env' => evDraw T sig caps orc ops rest (ms ++ [ancMask ms o.after.toList]) (fs ++ [f]) env' K else none) = some r →
        okAll (ancMask ms o.after.toList) 0 fs f = true ∧ ∃ e1, skipOp o X some = some e1 ∧ evDraw T sig caps orc ops rest (ms ++ [ancMask ms o.after.toList]) (fs ++ [f]) e1 K = some r := by
      intro f X h
      split at h
      · rename_i hok
        rw [skipOp_bind] at h
        obtain ⟨e1, h1, h2⟩ := Option.bind_eq_some_iff.1 h
        exact ⟨hok, e1, h1, h2⟩
      · simp at h
    unfold footG
    simp only [evOps]
    cases hg : o.guard with
    | none =>
      rw [hg] at h
      simp only at h ⊢
      exact run h
    | some g =>
      obtain ⟨j, want⟩ := g
      rw [hg] at h
      simp only at h ⊢
      cases hj : (ops[j]?).bind (·.dst) with
      | none => rw [hj] at h; simp at h
      | some dj =>
        rw [hj] at h
        simp only at h ⊢
        split at h
        · rename_i hs
          simp only [hs]
          exact skp h
        · rename_i b hs
          have hput : put env dj (vBool b) = env := put_self hs
          simp only [hs]
          cases b with
          | true =>
            simp only [cond_true] at h ⊢
            rw [hput] at h ⊢
            cases want with
            | true => simp only [if_true] at h ⊢; exact run h
            | false => simp only [Bool.false_eq_true, if_false, Bool.true_eq_false] at h ⊢; exact skp h
          | false =>
            simp only [cond_false] at h ⊢
            rw [hput] at h ⊢
            cases want with
            | true => simp only [if_true, Bool.false_eq_true, if_false] at h ⊢; exact skp h
            | false => simp only [Bool.false_eq_true, if_false, if_true] at h ⊢; exact run h
        · simp at h
  · simp at h
end
end Go.FP

/- How Go values lie in memory, and an evaluator of code with its soundness (part 4 of 7). Conditions: those that stand in each theorem; nothing is assumed of any program. -/
import Derived.Test.YtdnmcmhnikjphaaFpC

set_option linter.unusedVariables false
set_option linter.unusedSimpArgs false
set_option linter.unnecessarySimpa false

namespace Go.FP
open Go.RowKit
variable {S : Nat -> Prop} {w : World} {env : Env} {tmps : Array Value} {vs : Nat -> Value} {ps : Nat -> AV} {cs : Nat -> List Value} {bs : Nat -> Nat -> List Nat} {c : Cx} {s : St} {next : Act -> World -> Prop} {ls : List Leaf} {x : Operand} {t : Ty} {f : FuncId} {e : TypeId} {cells : List Value} {n : Nat} {u : Value} {k : Kind} {sg : Sig} {lv : Lvl} {τ : Ty} {w' : World} {us : List Value} {te : TE}
theorem Yap (hrel : Rel c (SS env ps tmps vs w cs bs)) {r j : Nat} {ys : List t.D} (hlv : lv.deep = true)
  (hq : (get env r).leaf? j = some ⟨.slice e t, ys, .at_ lv⟩) (h0 : 0 < ys.length) :
  ∃ B cp cells b1, (cs r)[j]? = some (.slice (some ⟨B, 0, none⟩) ys.length cp) /\ bs r (j + 1) = B :: b1 /\ El (Rep (fun _ => False) w t .dp) t.sz cells ys b1 /\ w.ownsRow 0 e t.sz (.slice (some ⟨B, 0, none⟩) ys.length cp) ys.length cells := by
 have hrl := Y1t hq
 have hav := hrel.av r
 have e1 : (SS env ps tmps vs w cs bs).env r = get env r := Y8 hrl
 rw [e1] at hav
 obtain ⟨k, ls0, hv0⟩ : ∃ k ls, get env r = .con k ls := by
  cases hv : get env r with
  | con k ls => exact ⟨k, ls, rfl⟩
  | _ => rw [hv] at hq; simp [AV.leaf?] at hq
 rw [hv0] at hav hq
 have hl0 : leafAt ls0 j = some ⟨.slice e t, ys, .at_ lv⟩ := hq
 have hlt : j < ls0.length := by rw [Y2] at hl0; exact (J7.1 hl0).1
 have g2 : ls0.length = (cs r).length := hav.2.1
 have hu : (cs r)[j]? = some ((cs r)[j]'(by omega)) := J1 (by omega)
 have hrep := (Rep.deep hlv).1 (hav.2.2.2 j _ _ hl0 hu).rep
 obtain ⟨v, cells, b0, b1, f1, f2, f3, f4⟩ := hrep
 have f1 : (cs r)[j]'(by omega) = v := by simpa using f1
 rw [f1] at hu
 obtain ⟨f4, f5⟩ := f4
 rcases f5.2 with ⟨_, hn⟩ | ⟨g, cap, cur, rfl, _⟩
 ·omega
 ·have f4 : b0 = [g] := f4
  subst f4
  exact ⟨g, cap, cells, b1, hu, f2, El.imp (fun c x b hb h => Rep.dpS h) f3, f5⟩
theorem Ycj {sz n : Nat} {B k cp : Nat} (h : w.ownsRow 0 e sz (.slice (some ⟨B, 0, none⟩) n cp) n cells) (hu : cells[k]? = some u) : w.cell? ⟨B, k, none⟩ = some u := by
 have := World.ownsRow.cells (g := B) h rfl k u hu
 rwa [Y1b, J16] at this
section
variable {P : Program} {o : Oper} {a : Act} {w : World} {R : Type} {K : Env -> Option R} {r0 : R} {next : Act -> World -> Prop} {Q : Exit -> Act -> World -> Prop} {c : Cx} {d : Nat} {T : Tab} {env : Env}
theorem Yaq (hT : TabOk P T) {t : TypeId} {s x : Operand} {cl : Call} {r j oo : Nat} {i : Int} (hop : o.op = .call cl) (hc : cl.callee = .builtin .append) (hargs : cl.args.toList = [s, x]) (htys : cl.argTypes.toList = [t, t]) (hdst : o.dst = some d)
  (hr : RE c env a.tmps w) (hd : d < env.length) (ht : elemAt T t = some te) (hs : nestOf env s = some (r, j, i, oo)) (hK : appendN d te r j i oo x env K = some r0) (hn : Next c a K r0 env.length next) : o.wp P a w next Q := by simp [nestOf] at hs
end
section
variable {P : Program} {o : Oper} {a : Act} {w : World} {R : Type} {K : Env -> Option R} {r0 : R} {next : Act -> World -> Prop} {Q : Exit -> Act -> World -> Prop} {c : Cx} {d : Nat} {T : Tab} {env : Env}
theorem Y8s (hT : TabOk P T) {t : TypeId} {x v : Operand} {s r j oo : Nat} {i : Int} {l : Leaf} (hop : o.op = .store t x v) (hdst : o.dst = none) (hr : RE c env a.tmps w) (hg : growOf env v = some (s, r, j, i, oo, l)) (ht : T.ty t = some l.t)
  (hK : storeGrow s r j i oo l x env K = some r0) (hn : Next c a K r0 env.length next) : o.wp P a w next Q := by simp [growOf] at hg
end
abbrev Places := List (Nat × Nat × Leaf)
section
variable {c : Cx} {env : Env} {tmps : Array Value} {w : World} {vs : Nat -> Value} {cs : Nat -> List Value} {bs : Nat -> Nat -> List Nat}
theorem Ya7 {bds : List (List Nat)} {l b : Nat} (h : b ∈ bds.getD l []) : l < bds.length := by grind
end
section
variable {c : Cx} {env : Env} {tmps : Array Value} {w : World} {vs : Nat -> Value} {cs : Nat -> List Value} {bs : Nat -> Nat -> List Nat}
end
theorem Ybn {ys : List t.D} {bl : List Nat} {A : Addr} {n cp : Nat} (h : Rep (fun _ => False) w (.slice e t) .dp [.slice (some A) n cp] ys bl) {i oo : Nat} (hin : i < n) {y : t.D} (hus : ls.length = us.length) (hne : ls ≠ [])
  (hru : ∀ (l : Nat) (lf : Leaf) (u : Value), ls[l]? = some lf -> us[l]? = some u -> Rep (fun _ => False) w lf.t .dp [u] lf.x []) (hu : updLeavesD t (ys.getD i t.dflt) oo ls = some y) (hnd : bl.Nodup) :
  ∃ G cur, A = ⟨G, 0, none⟩ /\ G ∈ bl /\ w.heap[G]? = some (.cells cur e (0, 0)) /\ i * t.sz + oo + us.length <= cur.size /\ ∃ bl', (∀ b ∈ bl', b ∈ bl) /\ bl'.Nodup /\
   ∀ w' : World, w'.heap[G]? = some (.cells (cur.toList.take (i * t.sz + oo) ++ us ++ cur.toList.drop (i * t.sz + oo + us.length)).toArray e (0, 0)) -> (∀ b ∈ bl, b ≠ G -> w'.heap[b]? = w.heap[b]?) ->
    Rep (fun _ => False) w' (.slice e t) .dp [.slice (some A) n cp] (ys.set i y) bl' := by
 obtain ⟨v0, cells, b0, b1, e1, e2, hel, hb0, hown1, hown⟩ := h
 obtain rfl : v0 = .slice (some A) n cp := by simpa using e1.symm
 rcases hown with ⟨h', _⟩ | ⟨G, cap', cur, h', _, hgB, hnc, hcm, hcs, htk⟩
 ·simp at h'
 simp only [Value.slice.injEq, J0] at h'
 obtain ⟨rfl, rfl, rfl⟩ := h'
 have hb0 : b0 = [G] := by rw [hb0]; rfl
 subst hb0
 have hget : ys.getD i t.dflt = ys[i] := by simp [hin]
 rw [hget] at hu
 obtain ⟨pre, ch, post, x0, x1, x2, f1, f2, f3, f4, f5, f6⟩ := hel.at_ i hin
 have f5 : Rep _ w t .dp ch _ x1 := f5
 obtain ⟨k0, b', k4, k5, k6⟩ := Y2c t ls us (fun _ => []) hus hru f5 hu
 have k0 := k0 hne
 have hel' := f6 (setCs ch oo us) y _ (by rw [Y3r]; exact f3) k4
 have hcl : cells.length = ys.length * t.sz := hel.len
 have hlen2 : cells.length <= cur.size := by
  have : cells.length <= cur.toList.length := by rw [<- htk, Jk]; exact Nat.min_le_right _ _
  simpa using this
 have hoff : i * t.sz + oo + us.length <= cells.length := by
  rw [f1]; simp only [Ji]; omega
 have hcells : pre ++ setCs ch oo us ++ post = cells.take (i * t.sz + oo) ++ us ++ cells.drop (i * t.sz + oo + us.length) := by
  rw [Y63 _ _ _ (by omega), f1, Ya6 _ _ _ _ _ (by omega), f2]
 rw [hcells] at hel'
 subst f4
 subst e2
 have hndn : ([G] ++ (x0 ++ b' ++ x2)).Nodup := by
  have := k6 ([G] ++ x0) x2 (by simpa only [J6] using hnd) (fun l _ => J15) (fun l l' z _ _ h1 _ => by simp at h1) (fun l z _ hz => by simp at hz)
  simpa only [J6] using this
 have hsub : ∀ b ∈ x0 ++ b' ++ x2, b ∈ x0 ++ x1 ++ x2 := fun b hb => by
  simp only [J5] at hb ⊢
  rcases hb with (hb | hb) | hb
  ·simp [hb]
  ·rcases k5 b hb with hb | ⟨l, _, hb⟩
   ·simp [hb]
   ·simp at hb
  ·simp [hb]
 refine ⟨G, cur, rfl, by simp, hgB, by omega, [G] ++ (x0 ++ b' ++ x2), fun b hb => ?_, hndn, fun w' hsame hother => ?_⟩
 ·rcases J5.1 hb with hb | hb
  ·exact Jb _ hb
  ·exact Je _ (hsub b hb)
 ·refine ⟨.slice (some ⟨G, 0, none⟩) ys.length cp, cells.take (i * t.sz + oo) ++ us ++ cells.drop (i * t.sz + oo + us.length), [G], _, rfl, rfl, ?_, rfl, ?_⟩
  ·refine El.imp (fun c' x' b2 hb' h' => ?_) hel'
   refine Rep.move (S := fun _ => False) (fun _ hf => absurd hf id) (fun b hb => hother b (Je _ (hsub b (hb' b hb))) (fun e => ?_)) h'
   subst e
   exact (J13.1 hndn).2.2 b (by simp) b (hb' b hb) rfl
  ·rw [Jx]
   have hcurl : i * t.sz + oo + us.length <= cur.toList.length := by
    have : cur.toList.length = cur.size := J11
    omega
   refine ⟨?_, .inr ⟨G, cp, _, rfl, J2c _, hsame, hnc, hcm, ?_, ?_⟩⟩
   ·simp only [Ji, Jk, J10]; omega
   ·rw [<- hcs]
    have hcz : cur.toList.length = cur.size := J11
    simp only [List.size_toArray, Ji, Jk, J10]
    omega
   ·rw [<- htk]
    exact Y8r _ _ _ _ (by rw [hcl] at hoff; exact hoff) (by rw [<- hcl, <- htk, Jk]; exact Nat.min_le_right _ _)
theorem Y6n (hrel : Rel c (SS env ps tmps vs w cs bs)) {r j : Nat} {te : Ty} {xs : List te.D} (hlv : lv.deep = true) (hq : (get env r).leaf? j = some ⟨.slice e te, xs, .at_ lv⟩) {B n0 cp0 : Nat} {uu : Value} (huu : (cs r)[j]? = some uu) (hB : uu = .slice (some ⟨B, 0, none⟩) n0 cp0) {i0 o0 : Nat} (hi0 : i0 < xs.length) {A : Addr} {n' cp' : Nat} (hcell : w.cell? ⟨B, i0 * te.sz + o0, none⟩ = some (.slice (some A) n' cp')) {i oo : Nat} (hi : i < n') {e' : TypeId} {t' : Ty} {ys : List t'.D} (hleaf : leafD te (xs.getD i0 te.dflt) o0 = some ⟨.slice e' t', ys⟩) {y : t'.D} {x' : te.D} (hus : ls.length = us.length) (hne : ls ≠ []) (hru : ∀ (l : Nat) (lf : Leaf) (u : Value), ls[l]? = some lf -> us[l]? = some u -> Rep (fun _ => False) w lf.t .dp [u] lf.x [])
  (hu : updLeavesD t' (ys.getD i t'.dflt) oo ls = some y) (hx : updLeafD te (xs.getD i0 te.dflt) o0 ⟨.slice e' t', ys.set i y, .at_ .dp⟩ = some x') :
  ∃ G cur, A = ⟨G, 0, none⟩ /\ G ∈ bs r (j + 1) /\ w.heap[G]? = some (.cells cur e' (0, 0)) /\ i * t'.sz + oo + us.length <= cur.size /\ ∃ bd, (∀ b ∈ bd, b ∈ bs r (j + 1)) /\ bd.Nodup /\
   ∀ w' : World, w'.heap[G]? = some (.cells (cur.toList.take (i * t'.sz + oo) ++ us ++ cur.toList.drop (i * t'.sz + oo + us.length)).toArray e' (0, 0)) -> (∀ b ∈ bs r (j + 1), b ≠ G -> w'.heap[b]? = w.heap[b]?) ->
    Rep (fun _ => False) w' (.slice e te) .dp [uu] (xs.set i0 x') bd := by
 subst hB
 obtain ⟨B2, cp2, cells, b1, n1, n2, n3, n4⟩ := Yap hrel hlv hq (by omega)
 rw [huu] at n1
 simp only [J0, Value.slice.injEq, J2z, and_true] at n1
 obtain ⟨rfl, rfl, rfl⟩ := n1
 have hgetD : xs.getD i0 te.dflt = xs[i0] := by simp [hi0]
 rw [hgetD] at hx hleaf
 obtain ⟨pre, ch, post, z0, z1, z2, f1, f2, f3, f4, f5, f6⟩ := El.at2 i0 hi0 n3
 have f5 : Rep (fun _ => False) w te .dp ch xs[i0] z1 := f5
 obtain ⟨u1, bA, bl, bB, h1, h2, h3, h4⟩ := Rep.leafAt te f5 hleaf
 have hoo : o0 < te.sz := by
  have := (J7.1 h1).1
  omega
 have hcell2 : w.cell? ⟨B, i0 * te.sz + o0, none⟩ = some u1 := by
  refine Ycj n4 ?_
  rw [f1, J6, Jd (by omega), Jo (by omega), f2, show i0 * te.sz + o0 - i0 * te.sz = o0 by omega]
  exact h1
 rw [hcell] at hcell2
 obtain rfl := Js hcell2
 have hnd : (B :: b1).Nodup := by rw [<- n2]; exact hrel.nodup r (j + 1)
 rw [f4, h2] at hnd
 have hblnd : bl.Nodup := hnd.sublist (by
  refine List.Sublist.trans ?_ (List.sublist_cons_self _ _)
  refine List.Sublist.trans ?_ (List.sublist_append_left _ _)
  refine List.Sublist.trans ?_ (List.sublist_append_right _ _)
  refine List.Sublist.trans ?_ (List.sublist_append_left _ _)
  exact List.sublist_append_right _ _)
 obtain ⟨G, cur, k1, k2, k3, k4, bl', k5, k6, k7⟩ := Ybn h3 hi hus hne hru hu hblnd
 have hblB : ∀ b ∈ bl, b ∈ bs r (j + 1) := fun b hb => by
  rw [n2, f4, h2]
  simp only [Jp, J5]
  simp [hb]
 have hdis : ∀ b, b ∈ z0 ++ z2 \/ b ∈ bA ++ bB \/ b = B -> b ∉ bl := by
  intro b hb hbl
  have hc : List.count b (B :: (z0 ++ (bA ++ bl ++ bB) ++ z2)) <= 1 := List.nodup_iff_count.1 hnd b
  have h0 : 0 < List.count b bl := List.count_pos_iff.2 hbl
  simp only [List.count_cons, List.count_append] at hc
  rcases hb with hb | hb | rfl
  ·rcases J5.1 hb with h | h <;> · have := List.count_pos_iff.2 h; omega
  ·rcases J5.1 hb with h | h <;> · have := List.count_pos_iff.2 h; omega
  ·simp at hc; omega
 refine ⟨G, cur, k1, hblB G k2, k3, k4, B :: (z0 ++ (bA ++ bl' ++ bB) ++ z2), fun b hb => ?_, ?_, fun w' hsame hother => ?_⟩
 ·rw [n2, f4, h2]
  simp only [Jp, J5] at hb ⊢
  rcases hb with h | (h | (h | h) | h) | h
  ·simp [h]
  ·simp [h]
  ·simp [h]
  ·simp [k5 b h]
  ·simp [h]
  ·simp [h]
 ·have h0 : (B :: (z0 ++ (bA ++ bB) ++ z2)).Nodup := hnd.sublist (by
   refine List.Sublist.cons_cons _ (J2d (J2d (J2n _) ?_) (J2n _))
   rw [J6]
   exact J2d (J2n _) (List.sublist_append_right _ _))
  have hperm : List.Perm (B :: (z0 ++ (bA ++ bl' ++ bB) ++ z2)) (bl' ++ (B :: (z0 ++ (bA ++ bB) ++ z2))) := by
   rw [List.perm_iff_count]
   intro a
   simp only [List.count_cons, List.count_append]
   omega
  refine hperm.nodup_iff.2 (J13.2 ⟨k6, h0, fun a ha b hb e => ?_⟩)
  subst e
  refine hdis a ?_ (k5 a ha)
  simp only [Jp, J5] at hb ⊢
  rcases hb with h | (h | h | h) | h <;> simp [h]
 ·have old : ∀ b, b ∈ z0 ++ z2 \/ b ∈ bA ++ bB \/ b = B -> w'.heap[b]? = w.heap[b]? := fun b hb => hother b (by
   rw [n2, f4, h2]
   simp only [Jp, J5] at hb ⊢
   rcases hb with (h | h) | (h | h) | h <;> simp [h]) (fun e => hdis b hb (e ▸ k2))
  have hrn := k7 w' hsame (fun b hb hb1 => hother b (hblB b hb) hb1)
  obtain ⟨y2, q1, hup⟩ := h4 (fun _ => False) w' _ ⟨.slice e' t', ys.set i y, .at_ .dp⟩ bl' rfl hrn (fun _ h => h.elim) (fun b hb => old b (.inr (.inl hb)))
  rw [hx] at q1
  obtain rfl := Js q1
  have hch : ch.set o0 (.slice (some A) n' cp') = ch := by
   apply J29
   intro k
   rw [List.getElem?_set]
   split
   ·rename_i hk
    subst hk
    split
    ·exact h1.symm
    ·omega
   ·rfl
  rw [hch] at hup
  have hel' := f6 (Rep (fun _ => False) w' te .dp) (fun c' x' b' hb' h' => Rep.move (fun _ h => h.elim) (fun b hb => old b (.inl (hb' b hb))) h') ch x' (bA ++ bl' ++ bB) f3 hup
  rw [<- f1] at hel'
  refine ⟨_, cells, [B], z0 ++ (bA ++ bl' ++ bB) ++ z2, rfl, rfl, hel', rfl, ?_⟩
  rw [Jx]
  exact Y33 n4 (fun k hk => by
   have : B = k := by simpa [Value.ownBlock] using hk
   subst this
   exact old B (.inr (.inr rfl)))
section
variable {P : Program} {o : Oper} {a : Act} {w : World} {R : Type} {K : Env -> Option R} {r : R} {next : Act -> World -> Prop} {Q : Exit -> Act -> World -> Prop} {c : Cx} {d : Nat} {T : Tab} {env : Env}
theorem Y81 (hT : TabOk P T) {t : TypeId} {x v : Operand} {env1 : Env} {q j o0 z oo : Nat} {i0 i1 i : Int} {le : List Leaf} (hop : o.op = .store t x v) (hdst : o.dst = none) (hr : RE c env a.tmps w) (ht : T.ty t = some τ) (hta : takeAs τ env v = some (env1, ls))
  (hx : rd none env1 x = .eptr le (some (q, j, [(i0, o0), (i1, z)], i, oo))) (hK : storeNest q j i0 o0 i1 z i oo ls env1 K = some r) (hn : Next c a K r env.length next) : o.wp P a w next Q := by
 unfold storeNest at hK
 split at hK
 case h_2 => simp at hK
 rename_i e te xs lv hl
 split at hK
 case isFalse => simp at hK
 rename_i hc
 obtain ⟨hlv, hlm⟩ := hc
 split at hK
 case h_2 => simp at hK
 rename_i e' t' ys hleaf
 split at hK
 case isFalse => simp at hK
 rename_i hz
 obtain ⟨rfl, rfl⟩ := hz
 split at hK
 case h_2 => simp at hK
 rename_i y hu
 split at hK
 case h_2 => simp at hK
 rename_i x' hux
 simp only [J8, J1l, List.isEmpty_eq_false_iff] at hlm
 obtain ⟨hne, hlm⟩ := hlm
 obtain ⟨hti, hty⟩ := Y1x hta
 have hll := Y18 hty
 obtain ⟨vs, h⟩ := hr
 obtain ⟨hlen1, h1⟩ := Y13 h (fun r => .inl rfl) hti (Jh _) rfl
 have hset := Yw hti
 have hs1 : ∀ r, Settled (upd noP env.length (.con τ.kind ls) r) := Settled.upd (fun r => .inl rfl) _ (.inr ⟨_, _, rfl, hset⟩)
 let ps := upd noP env.length (.con τ.kind ls)
 let vs1 := upd vs env.length (evT a.tmps v)
 have hql : q < env1.length := Y1t hl
 have hqm : q ≠ env.length := by omega
 have near : ∀ cs bs, Rel c (SS env1 ps a.tmps vs1 w cs bs) -> ∃ B n cp A n' cp', (cs q)[j]? = some (.slice (some ⟨B, 0, none⟩) n cp) /\ i0.toNat < xs.length /\ w.cell? ⟨B, i0.toNat * te.sz + o0, none⟩ = some (.slice (some A) n' cp') /\ i.toNat < n' /\ evT a.tmps x = .pointer (some (A.add (i.toNat * t'.sz + oo))) := by
  intro cs bs hrel
  obtain ⟨cells, hv⟩ := Yo h1.len hrel none x
  rw [hx] at hv
  obtain ⟨ad, ea, _, _, lf, u, ⟨o1, o2, o3⟩, k⟩ := hv
  obtain ⟨e2, t2, xs2, m', B, n, cp, A, n', cp', k1, k2, k3, _, k4, k5, k6⟩ := k.2 _ _ _ rfl
  have o1 : (ovl env1 ps q).leaf? j = some lf := o1
  rw [Y8 hql, hl] at o1
  simp only [J0] at o1
  rw [<- o1] at k1
  simp only [Leaf.mk.injEq, Ty.slice.injEq] at k1
  obtain ⟨⟨rfl, rfl⟩, hxx, _⟩ := k1
  obtain rfl := eq_of_heq hxx
  subst k2
  exact ⟨B, n, cp, A, n', cp', o3, k3.2, k4, k5.2, by rw [ea, k6]⟩
 let us := (evT a.tmps v).cells.toList
 have leafv : ∀ cs bs, Rel c (SS env1 ps a.tmps vs1 w cs bs) -> ls.length = us.length /\ ∀ (l : Nat) (lf : Leaf) (u : Value), ls[l]? = some lf -> us[l]? = some u -> Rep (fun _ => False) w lf.t .dp [u] lf.x [] := by
  intro cs bs hrel
  obtain ⟨m1, m2, m3, m4, m5⟩ := Y2e h1.len hrel (n := env.length) (by omega) (Y0 _ _ _) (Y1h τ) hset
  have ev : vs1 env.length = evT a.tmps v := Y0 _ _ _
  rw [ev] at m1
  refine ⟨by rw [m3, m1], fun l lf u hlf hu1 => ?_⟩
  obtain ⟨lv, ⟨k1, _⟩, k2⟩ := m5 l lf u hlf (by rw [m1]; exact hu1)
  have hlm1 := J9.1 hlm lf (Ja hlf)
  simp only [J8] at hlm1
  exact (Rep.flat (S' := fun _ => False) (w' := w) (m' := .dp) hlm1.2 k2).2
 obtain ⟨cs0, bs0, hrel0, _⟩ := h1.rel
 obtain ⟨B, n, cp, A, n', cp', c1, c2, c3, c4, c5⟩ := near cs0 bs0 hrel0
 obtain ⟨hus, leafv0⟩ := leafv cs0 bs0 hrel0
 have hone : ∀ u ∈ us, u.oneCell' = true := fun u hu => by
  obtain ⟨l, hlu⟩ := Jy hu
  have hlt : l < ls.length := by rw [hus]; exact (J7.1 hlu).1
  exact Rep.one (leafv0 l ls[l] u (J1 hlt) hlu) u (by simp)
 obtain ⟨G, cur, g1, g2, hgB, hfit, _⟩ := Y6n hrel0 hlv hl c1 rfl c2 c3 c4 hleaf hus hne leafv0 hu hux
 subst g1
 let off := i.toNat * t'.sz + oo
 let cur' : Array Value := (cur.toList.take off ++ us ++ cur.toList.drop (off + us.length)).toArray
 let w' := w.setRow G cur'
 have hother : ∀ b, b ≠ G -> w'.heap[b]? = w.heap[b]? := fun b hb => setRow_other w G b _ hb
 have hsame : w'.heap[G]? = some (.cells cur' e' (0, 0)) := setRow_heap w G _ _ e' (0, 0) hgB
 have h2 := h1.sync (m := env.length) (fun r _ => hs1 r) (by omega) hl hlv (w' := w') (y := xs.set i0.toNat x') (fun cs bs hrel uu huu => by
  obtain ⟨B', n2, cp2, A', n3, cp3, k1, k2, k3, k4, k5⟩ := near cs bs hrel
  have huu : (cs q)[j]? = some uu := huu
  obtain ⟨_, hru⟩ := leafv cs bs hrel
  obtain ⟨G', cur2, j1, j2, j3, j4, bd, j5, j6, j7⟩ := Y6n hrel hlv hl k1 rfl k2 k3 k4 hleaf hus hne hru hu hux
  subst j1
  rw [c5] at k5
  have hG : G = G' := by
   rw [Y1b, Y1b] at k5
   simpa using k5
  subst hG
  rw [hgB] at j3
  simp only [J0, Obj.cells.injEq, and_true] at j3
  subst j3
  rw [k1] at huu
  obtain rfl := Js huu
  have hltG : G < w.heap.size := (hrel.own _ _ _ j2).2
  have hsz : w'.heap.size = w.heap.size := setRow_size _ _ _
  refine ⟨below_setRow (J19 _ _) (hrel.own _ _ _ j2).1.1 _, fun b hb hb1 _ => hother b (fun e => hb1 (e ▸ j2)), bd, fun b hb => ?_, j6, j7 w' hsame (fun b _ hb => hother b hb)⟩
  rw [hsz]
  exact ⟨(hrel.own _ _ _ (j5 b hb)).2, .inr (.inl (j5 b hb))⟩)
 refine Y4o hdst (w' := w') ?_ (by unfold syncPlace; rw [Y4, Y7]; exact hlen1) h2 (fun r => ?_) hK hn
 ·have hsize := TabOk.sizeOf hT ht
  have hcs : (evT a.tmps v).cells.size = τ.sz := by rw [<- J11]; show us.length = _; rw [<- hus, hll]
  have hst := run_storeCells_at P G off e' us 0 cur w hgB (by simpa using hfit) hone
  rw [J2a] at hst
  have c5 : evT a.tmps x = .pointer (some ⟨G, off, none⟩) := by rw [c5, Y1b, J16]
  simp [execOp, hop, Y5, c5, Instr.storeAt, Instr.sureAddr, storeVar, hsize, hcs]
  rw [show Sem.run P (storeCells { block := G, off := off } (evT a.tmps v).cells.toList) w = .ok () w' from hst]
  rfl
 ·by_cases hr : r = env.length
  ·subst hr; rw [Y0]
  ·rw [Y1 _ _ hr]; show upd noP env.length _ r = _; rw [Y1 _ _ hr]; rfl
end
section
variable {P : Program} {o : Oper} {a : Act} {w : World} {R : Type} {K : Env -> Option R} {r : R} {next : Act -> World -> Prop} {Q : Exit -> Act -> World -> Prop} {c : Cx} {d : Nat} {T : Tab} {env : Env} {sig : FuncId -> Option Sig} {caps : FuncId -> List Ty} {orc : Orc}
theorem Yck (hO : OrcOk P sig orc) {cl : Call} {extra : List AV} {ex : List Value} (hop : o.op = .call cl) (hdst : o.dst = some d) (hr : RE c env a.tmps w) (hd : d < env.length)
  (hrun : Enterable P f -> (execOp a.eval o).run P w = .ok (.enter f (cl.args.map (evT a.tmps) ++ ex.toArray)) w) (hex : ∀ vs cs bs, Rel c (SS env noP a.tmps vs w cs bs) -> ValCs c (SS env noP a.tmps vs w cs bs) extra ex) (hsg : sig f = some sg) (hbx : sg.box = none /\ sg.newb = none) (hm : sg.muts = true) (how : sg.own = false) (hK : callM caps orc (some d) f sg cl.args.toList extra env K = some r) (hn : Next c a K r env.length next) : o.wp P a w next Q := by simp [callM] at hK
end
section
variable {P : Program} {o : Oper} {a : Act} {w : World} {R : Type} {K : Env -> Option R} {r : R} {next : Act -> World -> Prop} {Q : Exit -> Act -> World -> Prop} {c : Cx} {d : Nat} {T : Tab} {env : Env} {sig : FuncId -> Option Sig} {caps : FuncId -> List Ty} {orc : Orc}
theorem RP.handed (hlen : env.length = tmps.size) (hr : Rel c (SS env ps tmps vs w cs bs)) (hno : ∀ r, (∀ q ∈ (ovl env ps r).refs, q.1 < env.length) /\ (∀ q ∈ (ovl env ps r).ptrs, q < env.length)) (hn : env.length <= n) {x : t.D} (hp : ps n = .con .val [⟨t, x, .at_ .dp⟩]) :
  Rep (fun _ => False) w t .dp [vs n] x (bs n 1) /\ ∀ (w' : World) (v' : Value) (y : t.D) (b1 : List Nat), Below c.base w w' -> (∀ b, b < w.heap.size -> b ∉ bs n 1 -> w'.heap[b]? = w.heap[b]?) -> Rep (fun _ => False) w' t .dp [v'] y b1 -> b1.Nodup -> (∀ b ∈ b1, b ∈ bs n 1 \/ w.heap.size <= b) ->
   RP c env tmps w' (upd ps n (.con .val [⟨t, y, .at_ .dp⟩])) (upd vs n v') := by
 obtain ⟨hrep, hb0, hcn⟩ := Y4n hlen hr hn hp
 refine ⟨Rep.dpS hrep, fun w' v' y b1 hb hh hrep' hnd hin => ?_⟩
 have e : upd (upd ps n .undef) n (.con .val [⟨t, y, .at_ .dp⟩]) = upd ps n (.con .val [⟨t, y, .at_ .dp⟩]) := by
  funext r; simp [upd]; split <;> rfl
 have := RP.reformAt hlen hr hno (n := n) (m := n) hn hn (av := .con .val [⟨t, y, .at_ .dp⟩]) (v := v') (w' := w') ⟨by simp [AV.refs, Leaf.refs], by simp [AV.ptrs]⟩ hb (fun b hb' hne => hh b hb' (hne 1)) [v'] (fun l => if l = 1 then b1 else []) ?_ ?_ ?_ ?_
 ·grind
 ·intro l b hb'
  by_cases hl : l = 1
  ·subst hl
   rw [J4 rfl] at hb'
   refine ⟨Rep.lt hrep' b hb', ?_⟩
   rcases hin b hb' with h | h
   ·grind
   ·exact .inl h
  ·grind
 ·grind
 ·grind
 ·intro s' hk
  have ebs : s'.bs n = fun l => if l = 1 then b1 else [] := Y0 _ _ _
  have ecs : s'.cs n = [v'] := Y0 _ _ _
  refine ⟨⟨ecs, by rw [ebs]; rfl⟩, by rw [ecs]; rfl, fun l hl => ?_, fun l lf u hl hu => ?_⟩
  ·rw [ebs]
   simp at hl
   exact J3 (by omega)
  ·rw [ecs] at hu
   have hl0 : l = 0 := by grind
   subst hl0
   obtain rfl : lf = ⟨t, y, .at_ .dp⟩ := by simpa [leafAt] using hl.symm
   obtain rfl : u = v' := by grind
   refine LeafRel.of_rep trivial ?_
   rw [ebs]
   exact Rep.dpS hrep'
theorem Ycl (hO : OrcOk P sig orc) {cl : Call} {extra : List AV} {ex : List Value} (hop : o.op = .call cl) (hdst : o.dst = some d) (hr : RE c env a.tmps w) (hd : d < env.length)
  (hrun : Enterable P f -> (execOp a.eval o).run P w = .ok (.enter f (cl.args.map (evT a.tmps) ++ ex.toArray)) w) (hex : ∀ vs cs bs, Rel c (SS env noP a.tmps vs w cs bs) -> ValCs c (SS env noP a.tmps vs w cs bs) extra ex) (hsg : sig f = some sg) (hbx : sg.box = none /\ sg.newb = none) (hm : sg.muts = true) (how : sg.own = true) (hK : callO caps orc (some d) f sg cl.args.toList extra env K = some r) (hn : Next c a K r env.length next) : o.wp P a w next Q := by simp [callO] at hK
end
section
variable {P : Program} {o : Oper} {a : Act} {w : World} {R : Type} {K : Env -> Option R} {r : R} {next : Act -> World -> Prop} {Q : Exit -> Act -> World -> Prop} {c : Cx} {d : Nat} {T : Tab} {env : Env} {sig : FuncId -> Option Sig} {caps : FuncId -> List Ty} {orc : Orc}
theorem Ycm (hO : OrcOk P sig orc) {k : Nat} {cl : Call} {extra : List AV} {ex : List Value} (hop : o.op = .call cl) (hdst : o.dst = some d) (hr : RE c env a.tmps w) (hd : d < env.length)
  (hrun : Enterable P f -> (execOp a.eval o).run P w = .ok (.enter f (cl.args.map (evT a.tmps) ++ ex.toArray)) w) (hex : ∀ vs cs bs, Rel c (SS env noP a.tmps vs w cs bs) -> ValCs c (SS env noP a.tmps vs w cs bs) extra ex) (hsg : sig f = some sg) (hbx : sg.box = none /\ sg.newb = none) (hm : sg.muts = false) (how : sg.own = true) (hgv : sg.give = some k) (hK : callG caps orc k (some d) f sg cl.args.toList extra env K = some r) (hn : Next c a K r env.length next) : o.wp P a w next Q := by simp [callG] at hK
end
theorem Y8t : ∀ {xs : List Int} {cells : List Value} {b : List Nat}, El (Rep S w (.int .u8) .ro) 1 cells xs b -> cells = xs.map (Value.int .u8)
 | [], cells, b, h => h.1
 | x :: xs, cells, b, ⟨c, cs, b0, b1, e, _, _, h1, h2⟩ => by
  rw [e, h1.1, Y8t h2]; rfl
section
variable {P : Program} {o : Oper} {a : Act} {w : World} {R : Type} {K : Env -> Option R} {r : R} {next : Act -> World -> Prop} {Q : Exit -> Act -> World -> Prop} {c : Cx} {d : Nat} {T : Tab} {env : Env}
theorem Ycn (hT : TabOk P T) {s dt : TypeId} {b : ByteArray} (hop : o.op = .convert s dt x) (hdst : o.dst = some d) (hr : RE c env a.tmps w) (hd : d < env.length) (hb : bytesOf T s dt (fun ty => rd ty env x) = some b)
  (hK : K (setD (some d) env (vStr b)) = some r) (hn : Next c a K r env.length next) : o.wp P a w next Q := by
 unfold bytesOf at hb
 split at hb
 ·rename_i e hs ht
  split at hb
  ·rename_i he
   split at hb
   ·rename_i lx hrd
    have hrd : rd (some (.slice e (.int .u8))) env x = .con .val [lx] := hrd
    split at hb
    ·rename_i xs has
     split at hb
     ·rename_i hl
      obtain rfl := Js hb
      have hr0 := hr
      obtain ⟨vs, h0⟩ := hr0
      obtain ⟨cs, bs, h1, _⟩ := h0.rel
      obtain ⟨cells, hv⟩ := Yo h0.len h1 (some (.slice e (.int .u8))) x
      rw [hrd] at hv
      obtain ⟨S, hS⟩ := Y2o hv hl
      rw [Leaf.as_eq has] at hS
      obtain ⟨v, ch, b0, b1, e1, _, hel, _, A, cp, e2, hlc, hz, hc⟩ := hS
      have e1 : evT a.tmps x = v := by simpa using e1
      have hch := Y8t hel
      refine finV hr hdst (v := .string (strOfNums xs)) ?_ hd (fun vs cs bs _ => Y74 _ _ _) Y8c hK hn
      have key : (Go.convert s dt (.slice A xs.length cp)).run P w = .ok (.string (strOfNums xs)) w := by
       have hs' := TabOk.slice hT hs
       have he' := TabOk.int hT he
       have ht' := TabOk.str hT ht
       cases A with
       | none =>
        have hn0 : xs = [] := by simp_all
        subst hn0
        exact run_convert_bytes_nil w s e hs' he' 0 cp dt ht'
       | some A =>
        have hl : (loadCells A xs.length).run P w = .ok (xs.map (Value.int .u8)).toArray w := by
         have := run_loadCells_list (P := P) w A (xs.map (Value.int .u8)) (fun j u hj => by
          rw [<- hch] at hj
          obtain ⟨a', h1, _, h2⟩ := hc j u hj
          cases h1
          exact h2)
         simpa using this
        rw [run_convert_bytes_string w s dt e _ _ cp hs' he' ht', run_bytesToString w _ xs.length cp xs hl, foldl_push_bytes]
        simp [strOfNums, ByteArray.empty, ByteArray.emptyWithCapacity]
        rfl
      have key2 : (Go.convert s dt (evT a.tmps x)).run P w = .ok (.string (strOfNums xs)) w := by grind
      simp [execOp, hop, Y5, key2]
     ·simp at hb
    ·simp at hb
   ·simp at hb
  ·simp at hb
 ·simp at hb
end
theorem Rel.split2 (h : Rel c s) {n m : Nat} (hnm : m ≠ n) (hno : ∀ r, (∀ q ∈ (s.env r).refs, q.1 ≠ n /\ q.1 ≠ m) /\ (∀ q ∈ (s.env r).ptrs, q ≠ n /\ q ≠ m)) (av av2 : AV) (v : Value) (cd cd2 : List Value) (bd bd2 : Nat -> List Nat)
  (k1 : ∀ l b, b ∈ bd l -> ∃ l', b ∈ s.bs m l') (k2 : ∀ l b, b ∈ bd2 l -> ∃ l', b ∈ s.bs m l') (d1 : ∀ l l' b, b ∈ bd l -> b ∈ bd l' -> l = l') (d2 : ∀ l l' b, b ∈ bd2 l -> b ∈ bd2 l' -> l = l') (d3 : ∀ l l' b, b ∈ bd l -> b ∉ bd2 l') (n1 : ∀ l, (bd l).Nodup) (n2 : ∀ l, (bd2 l).Nodup)
  (hav : let s' : St := ⟨upd (upd s.env m av2) n av, upd s.tm n v, s.w, upd (upd s.cs m cd2) n cd, upd (upd s.bs m bd2) n bd⟩; Keeps c s s' -> AVRel c s' n av v /\ AVRel c s' m av2 (s.tm m)) :
  Rel c ⟨upd (upd s.env m av2) n av, upd s.tm n v, s.w, upd (upd s.cs m cd2) n cd, upd (upd s.bs m bd2) n bd⟩ := by
 let s' : St := ⟨upd (upd s.env m av2) n av, upd s.tm n v, s.w, upd (upd s.cs m cd2) n cd, upd (upd s.bs m bd2) n bd⟩
 have hsame : ∀ r, ¬ (r = n \/ r = m) -> s'.env r = (s.env r).chg noG /\ s'.tm r = s.tm r /\ s'.cs r = s.cs r /\ s'.bs r = s.bs r := fun r hr => by
  simp only [J2q] at hr
  refine ⟨by rw [AV.chg_no]; show upd _ _ _ r = _; rw [Y1 _ _ hr.1, Y1 _ _ hr.2], Y1 _ _ hr.1, ?_, ?_⟩ <;>
  ·show upd _ _ _ r = _
   rw [Y1 _ _ hr.1, Y1 _ _ hr.2]
 have hbn : s'.bs n = bd := Y0 _ _ _
 have hbm : s'.bs m = bd2 := by show upd _ _ _ m = _; rw [Y1 _ _ hnm, Y0]
 have hpl : ∀ r j, r ≠ n /\ r ≠ m -> SamePl s s' r j := fun r j hr => by
  have hs := hsame r (by simp only [J2q]; exact hr)
  exact ⟨fun lf u ho => ho.chg hs.1 hs.2.2.1, by rw [hs.2.2.2], fun b _ => rfl⟩
 have hpt : ∀ r, r ≠ n /\ r ≠ m -> SamePtr s s' r := fun r hr => by
  have hs := hsame r (by simp only [J2q]; exact hr)
  exact SamePtr.chg hs.1 hs.2.1
 have hin : ∀ r l b, (r = n \/ r = m) -> b ∈ s'.bs r l -> ∃ l', b ∈ s.bs m l' := fun r l b hD hb' => by
  rcases hD with rfl | rfl
  ·rw [hbn] at hb'; exact k1 l b hb'
  ·rw [hbm] at hb'; exact k2 l b hb'
 refine Rel.step (s' := s') noG h (fun r => r = n \/ r = m) (fun r _ => r ≠ n /\ r ≠ m) (fun r => r ≠ n /\ r ≠ m) hsame (J19 _ _) (fun b hl hD => rfl)
  (fun r l b hD hb' => ?_) (fun r l r' l' b hD hD' hb1 hb2 => ?_) (fun r l hD => ?_) (fun r _ => hno r) (fun hk => ⟨Yn hk hpl, Y16 hk hpl, fun r hL _ => hpt r hL⟩) (fun hk r hD => ?_)
 ·obtain ⟨l', h1⟩ := hin r l b hD hb'
  exact ⟨(h.own _ _ _ h1).2, .inr ⟨m, l', .inr rfl, h1⟩⟩
 ·rcases hD with rfl | rfl <;> rcases hD' with rfl | rfl
  ·rw [hbn] at hb1 hb2; exact ⟨rfl, d1 _ _ _ hb1 hb2⟩
  ·rw [hbn] at hb1; rw [hbm] at hb2; exact absurd hb2 (d3 _ _ _ hb1)
  ·rw [hbm] at hb1; rw [hbn] at hb2; exact absurd hb1 (d3 _ _ _ hb2)
  ·rw [hbm] at hb1 hb2; exact ⟨rfl, d2 _ _ _ hb1 hb2⟩
 ·rcases hD with rfl | rfl
  ·rw [hbn]; exact n1 l
  ·rw [hbm]; exact n2 l
 ·obtain ⟨h1, h2⟩ := hav hk
  rcases hD with rfl | rfl
  ·have e1 : s'.env r = av := Y0 _ _ _
   have e2 : s'.tm r = v := Y0 _ _ _
   rw [e1, e2]; exact h1
  ·have e1 : s'.env r = av2 := by show upd _ _ _ r = _; rw [Y1 _ _ hnm, Y0]
   have e2 : s'.tm r = s.tm r := Y1 _ _ hnm
   rw [e1, e2]; exact h2
theorem Ybo (s : Nat) (hbare : ∀ l ∈ ls, l.m.bare = true) : chgs (killG s) ls = ls := by
 rw [Y2n]
 conv => rhs; rw [<- List.map_id ls]
 refine List.map_congr_left (fun l hl => ?_)
 have := hbare l hl
 obtain ⟨t, x, m⟩ := l
 cases m with
 | bor _ _ _ => simp [Mode.bare] at this
 | _ => rfl
theorem Y3z (hbare : ∀ l ∈ ls, l.m.bare = true) : (AV.con k ls).refs = [] /\ (AV.con k ls).ptrs = [] := by
 refine ⟨?_, rfl⟩
 simp only [AV.refs, List.flatMap_eq_nil_iff]
 intro l hl
 have := hbare l hl
 obtain ⟨t, x, m⟩ := l
 cases m with
 | bor _ _ _ => simp [Mode.bare] at this
 | _ => rfl
section
variable {P : Program} {o : Oper} {a : Act} {w : World} {Q : Exit -> Act -> World -> Prop} {c : Cx} {d : Nat} {T : Tab} {env : Env}
theorem RP.splitB (h : RP c env tmps w noP vs) {s id nn : Nat} {sh : List (Bool × Nat)} (hk : get env s = .con (.tupB id nn sh) ls) (hbare : ∀ l ∈ ls, l.m.bare = true) (hro : ∀ l ∈ takeLs nn ls, l.m = .at_ .ro) :
  ∃ (B : Nat) (us : List Value), tmps.getD s undef = .tuple (.pointer (some ⟨B, 0, none⟩) :: us).toArray /\
   RP c (put (killRoot s env) s (.con (.tup ((false, 1) :: sh)) (⟨.bool, false, .dead⟩ :: dropLs nn ls))) tmps w (upd noP env.length (.con (.box ⟨id, false, []⟩) (takeLs nn ls))) (upd vs env.length (.pointer (some ⟨B, 0, none⟩))) := by
 let N := env.length
 have hsl : s < env.length := Yz hk
 have hsN : s ≠ N := J1g hsl
 obtain ⟨hlen, cs, bs, hr, hno⟩ := h
 replace hr : Rel c (SS env noP tmps vs w cs bs) := hr
 obtain ⟨hk2, hk3⟩ := hr.killRoot_ s
 let E := chgE (killG s) (ovl env noP)
 have hEs : E s = .con (.tupB id nn sh) ls := by show (ovl env noP s).chg _ = _; rw [Y8 hsl, hk]; show AV.con _ (chgs _ _) = _; rw [Ybo s hbare]
 have hav := hk2.av s
 have e2 : ovlT tmps vs s = tmps.getD s undef := J4 (hlen ▸ hsl)
 simp only [show chgE (killG s) (ovl env noP) s = _ from hEs, e2] at hav
 obtain ⟨⟨B, us, c0, c1, q1, q2, q3, q4, q5, q6⟩, g2, g3, g4⟩ := hav
 have q2 : cs s = c0 ++ c1 := q2
 have q4 : w.heap[B]? = _ := q4
 have q5 : bs s 0 = [B] := q5
 have g2 : ls.length = (cs s).length := g2
 have g3 : ∀ l, ls.length <= l -> bs s (l + 1) = [] := g3
 have g4 : ∀ l lf u, leafAt ls l = some lf -> (cs s)[l]? = some u -> LeafRel c ⟨E, ovlT tmps vs, w, cs, bs⟩ s l u lf := g4
 have hll : ls.length = nn + c1.length := by rw [g2, q2, Ji, q3]
 refine ⟨B, us, q1, ?_⟩
 let av : AV := .con (.box ⟨id, false, []⟩) (takeLs nn ls)
 let av2 : AV := .con (.tup ((false, 1) :: sh)) (⟨.bool, false, .dead⟩ :: dropLs nn ls)
 let bd : Nat -> List Nat := fun l => if l = 0 then [B] else []
 let bd2 : Nat -> List Nat := fun l => if l <= 1 then [] else bs s (nn + (l - 1))
 have hbd : ∀ l b, b ∈ bd l -> l = 0 /\ b = B := fun l b hb => by
  simp only [bd] at hb
  split at hb
  ·exact ⟨by assumption, by simpa using hb⟩
  ·simp at hb
 have hbd2 : ∀ l b, b ∈ bd2 l -> 1 < l /\ b ∈ bs s (nn + (l - 1)) := fun l b hb => by
  simp only [bd2] at hb
  split at hb
  ·simp at hb
  ·exact ⟨by omega, hb⟩
 have hLr : ∀ p, (∀ z ∈ (E p).refs, z.1 ≠ N /\ z.1 ≠ s) /\ (∀ z ∈ (E p).ptrs, z ≠ N /\ z ≠ s) := fun p =>
  ⟨fun z hz => ⟨by have h1 := (hno p).1 z ((Yg (Y10 s) (ovl env noP p)).1 z hz); omega, (hk3 p).1 z hz⟩,
   fun z hz => ⟨by have h1 := (hno p).2 z ((Yg (Y10 s) (ovl env noP p)).2 z hz); omega, (hk3 p).2 z hz⟩⟩
 have hsp := hk2.split2 (n := N) (m := s) hsN hLr av av2 (.pointer (some ⟨B, 0, none⟩)) c0 (.pointer (some ⟨B, 0, none⟩) :: c1) bd bd2
  (fun l b hb => ⟨0, by obtain ⟨_, rfl⟩ := hbd l b hb; show b ∈ bs s 0; rw [q5]; simp⟩) (fun l b hb => ⟨_, (hbd2 l b hb).2⟩)
  (fun l l' b h1 h2 => by have := (hbd l b h1).1; have := (hbd l' b h2).1; omega)
  (fun l l' b h1 h2 => by obtain ⟨m1, h1⟩ := hbd2 l b h1; obtain ⟨m2, h2⟩ := hbd2 l' b h2; have := (hk2.disj _ _ _ _ _ h1 h2).2; omega)
  (fun l l' b h1 h2 => by
   obtain ⟨_, rfl⟩ := hbd l b h1
   obtain ⟨m2, h2⟩ := hbd2 l' b h2
   have := (hk2.disj s 0 s _ b (by show b ∈ bs s 0; rw [q5]; simp) h2).2
   omega)
  (fun l => by simp only [bd]; split <;> simp) (fun l => by simp only [bd2]; split; exact J15; exact hk2.nodup _ _)
  (fun hkp => by
   have ebN : ∀ l, (upd (upd bs s bd2) N bd) N l = bd l := fun l => by rw [Y0]
   have ebS : ∀ l, (upd (upd bs s bd2) N bd) s l = bd2 l := fun l => by rw [Y1 _ _ hsN, Y0]
   constructor
   ·refine ⟨⟨B, rfl, ?_, by simp only [Y0]; rfl, by simp [nthB]⟩, ?_, fun l hl => ?_, fun l lf u hl hu => ?_⟩
    ·simp only [Y0]; exact q4
    ·simp only [Y0]; rw [Yk, Jk]; omega
    ·simp only [Y0]; exact J3 (by omega)
    ·simp only [Y0] at hu
     have hl' : ls[l]? = some lf := by
      rw [Y2, Yk, J1e] at hl
      split at hl
      ·exact hl
      ·simp at hl
     have hm := hro lf (Yc hl)
     have h6 := g4 l lf u (by rw [Y2]; exact hl') (by rw [q2, Jo (J7.1 hu).1]; exact hu)
     obtain ⟨t, x, m⟩ := lf
     simp only at hm
     subst hm
     refine LeafRel.of_held rfl (by simp only [Y0]; exact J3 (by omega)) ?_
     exact Rep.roS h6.2 (fun b hb hl => (hkp b hb hl).1) (by simp)
   ·refine ⟨⟨?_, .pointer (some ⟨B, 0, none⟩) :: us, e2.trans q1, ?_⟩, ?_, fun l hl => ?_, fun l lf u hl hu => ?_⟩
    ·exact ebS 0
    ·show TupCells _ _ ((upd (upd cs s (.pointer (some ⟨B, 0, none⟩) :: c1)) N c0) s)
     rw [Y1 _ _ hsN, Y0]
     exact ⟨_, us, [_], c1, rfl, rfl, rfl, ⟨rfl, rfl⟩, q6⟩
    ·show _ = ((upd (upd cs s (.pointer (some ⟨B, 0, none⟩) :: c1)) N c0) s).length
     rw [Y1 _ _ hsN, Y0, J1q, J1q, Yl, J10]
     omega
    ·show (upd (upd bs s bd2) N bd) s (l + 1) = []
     rw [ebS]
     rw [J1q, Yl, J10] at hl
     simp only [bd2]
     split
     ·rfl
     ·have := g3 (nn + l - 1) (by omega)
      rw [show nn + (l + 1 - 1) = nn + l - 1 + 1 by omega]
      exact this
    ·have hu : ((upd (upd cs s (.pointer (some ⟨B, 0, none⟩) :: c1)) N c0) s)[l]? = some u := hu
     rw [Y1 _ _ hsN, Y0] at hu
     cases l with
     | zero =>
      obtain rfl : lf = ⟨.bool, false, .dead⟩ := by simpa [leafAt] using hl.symm
      obtain rfl : u = _ := by simpa using hu.symm
      exact ⟨ebS 1, rfl⟩
     | succ l =>
      rw [Y2, J1d, Yl, J1h] at hl
      rw [J1d] at hu
      have h6 := g4 (nn + l) lf u (by rw [Y2]; exact hl) (by rw [q2, Jd (by omega), q3, Nat.add_sub_cancel_left]; exact hu)
      have hb0 : (upd (upd bs s bd2) N bd) s (l + 1 + 1) = bs s (nn + l + 1) := by
       rw [ebS]; simp only [bd2]; rw [J3 (by omega)]; congr 1
      have hbare0 := hbare lf (Ja hl)
      obtain ⟨t, x, m⟩ := lf
      cases m with
      | bor _ _ _ => simp [Mode.bare] at hbare0
      | dead => exact ⟨hb0.trans h6.1, h6.2⟩
      | at_ lv =>
       refine LeafRel.of_rep h6.pin ?_
       show Rep _ _ _ _ _ _ ((upd (upd bs s bd2) N bd) s (l + 1 + 1))
       rw [hb0]
       exact Rep.move (fun b hb hl => hkp b hb hl) (fun _ _ => rfl) h6.rep)
 have elen : (put (killRoot s env) s av2).length = env.length := by rw [Y4, Ya]
 have eE : upd (upd E s av2) N av = ovl (put (killRoot s env) s av2) (upd noP env.length av) := by
  rw [Yb (by rw [elen]; exact Jh _), Ys (by rw [Ya]; exact hsl)]
  unfold killRoot
  rw [Ys (by rw [Y7]; exact hsl), <- Y1u _ _ noP (fun _ => .inl rfl), Ye]
 refine ⟨by show (put (killRoot s env) s av2).length = _; rw [elen]; exact hlen, _, _, Rel.congr hsp eE (Y12 (by omega) _).symm, fun p => ?_⟩
 show (∀ q ∈ (ovl (put (killRoot s env) s av2) (upd noP env.length av) p).refs, q.1 < (put (killRoot s env) s av2).length) /\ ∀ q ∈ (ovl (put (killRoot s env) s av2) (upd noP env.length av) p).ptrs, q < (put (killRoot s env) s av2).length
 rw [<- eE, elen]
 have hb1 : ∀ l ∈ takeLs nn ls, l.m.bare = true := fun l hl => hbare l (by rw [Yk] at hl; exact J22 hl)
 have hb2 : ∀ l ∈ (⟨.bool, false, .dead⟩ : Leaf) :: dropLs nn ls, l.m.bare = true := fun l hl => by
  rcases Jp.1 hl with rfl | hl
  ·rfl
  ·rw [Yl] at hl; exact hbare l (J21 hl)
 by_cases hpN : p = N
 ·subst hpN
  rw [Y0, (Y3z hb1).1, (Y3z hb1).2]
  exact ⟨by simp, by simp⟩
 ·rw [Y1 _ _ hpN]
  by_cases hps : p = s
  ·subst hps
   rw [Y0, (Y3z hb2).1, (Y3z hb2).2]
   exact ⟨by simp, by simp⟩
  ·rw [Y1 _ _ hps]
   have := Yg (Y10 s) (ovl env noP p)
   exact ⟨fun z hz => (hno p).1 z (this.1 z hz), fun z hz => (hno p).2 z (this.2 z hz)⟩
theorem Y6o (hr : RE c env tmps w) : RE c (preTup o env) tmps w /\ (preTup o env).length = env.length := by
 unfold preTup
 split
 ·rename_i s n0 hop
  split
  ·rename_i id n sh ls hg
   split
   ·rename_i hc
    obtain ⟨h1, h2⟩ := hc
    obtain ⟨vs, hRP⟩ := hr
    obtain ⟨B, us, e, hp⟩ := hRP.splitB hg (fun l hl => by simpa using J9.1 h1 l hl) (fun l hl => by simpa using J9.1 h2 l hl)
    have hl : (put (killRoot s env) s (.con (.tup ((false, 1) :: sh)) (⟨.bool, false, .dead⟩ :: dropLs n ls))).length = env.length := by rw [Y4, Ya]
    have := RP.dropAt hp (n := env.length) (by rw [hl]; exact Jh _) (Y9n (fun _ => .inl rfl) (.inr ⟨_, _, rfl, fun l hl => by rw [show l.m = _ by simpa using J9.1 h2 l hl]; rfl⟩))
    rw [show upd (upd noP env.length (.con (.box ⟨id, false, []⟩) (takeLs n ls))) env.length .undef = noP by funext r; simp only [upd]; split <;> rfl] at this
    exact ⟨⟨_, this⟩, hl⟩
   ·exact ⟨hr, rfl⟩
  ·exact ⟨hr, rfl⟩
 ·exact ⟨hr, rfl⟩
theorem Y82 (hr : RE c env a.tmps w) (hdst : o.dst = some d) (hd : d < env.length) {env' : Env} (h : tupStep o d env = some env')
  (hn : ∀ a' w', RE c env' a'.tmps w' -> env'.length = env.length -> a'.defers = a.defers -> next a' w') : o.wp P a w next Q := by
 unfold tupStep at h
 split at h
 ·rename_i s hop
  split at h
  ·rename_i id n sh ls hg
   split at h
   ·rename_i hc
    simp only [J0] at h
    have hset : ∀ l ∈ ls, l.m.settled = true := fun l hl => by simpa using J9.1 hc l hl
    obtain ⟨vs, hRP⟩ := hr
    have hp := hRP.grab (fun _ => .inl rfl) hg hset (n := env.length) (Jh _) rfl
    have hl : (killRoot s env).length = env.length := Ya _ _
    refine fin (K := some) (r := env') (w' := w) hdst (v := evT a.tmps (.tmp s)) (av := .con (.tupB id n sh) ls) (by simp [execOp, hop, Y5]) (by rw [hl]; exact hd) hl (by rw [hl]; exact hp) (by rw [hl, Y0]; rfl) (by rw [h]) (fun e a' w' he h1 h2 h3 => by cases he; exact hn a' w' h1 h2 h3)
   ·cases h
  ·cases h
 ·rename_i s hop
  split at h
  ·rename_i id n sh ls hg
   split at h
   ·rename_i hc
    obtain ⟨h1, h2⟩ := hc
    simp only [J0] at h
    obtain ⟨vs, hRP⟩ := hr
    obtain ⟨B, us, e, hp⟩ := hRP.splitB hg (fun l hl => by simpa using J9.1 h1 l hl) (fun l hl => by simpa using J9.1 h2 l hl)
    have e' : evT a.tmps (.tmp s) = .tuple (.pointer (some ⟨B, 0, none⟩) :: us).toArray := e
    have hl : (put (killRoot s env) s (.con (.tup ((false, 1) :: sh)) (⟨.bool, false, .dead⟩ :: dropLs n ls))).length = env.length := by rw [Y4, Ya]
    refine fin (K := some) (r := env') (w' := w) hdst (v := .pointer (some ⟨B, 0, none⟩)) (av := .con (.box ⟨id, false, []⟩) (takeLs n ls)) (by simp [execOp, hop, Y5, e', Instr.extract]) (by rw [hl]; exact hd) hl (by rw [hl]; exact hp) (by rw [hl, Y0]) (by rw [h]) (fun e a' w' he h1 h2 h3 => by cases he; exact hn a' w' h1 h2 h3)
   ·cases h
  ·cases h
 ·cases h
end
theorem Y5m : ∀ (env : Env) (d : Nat) (u v : AV), put (put env d u) d v = put env d v
 | [], _, _, _ => rfl
 | _ :: _, 0, _, _ => rfl
 | x :: env, d + 1, u, v => by simp [put, Y5m env d u v]
section
variable {P : Program} {o : Oper} {a : Act} {w : World} {Q : Exit -> Act -> World -> Prop} {c : Cx} {d : Nat} {T : Tab} {env : Env} {caps : FuncId -> List Ty}
theorem Y78 (hT : TabOk P T) (hr : RE c env a.tmps w) (hdst : o.dst = some d) (hd : d < env.length) {env' : Env} (h : takeStep T caps o d env = some (true, env'))
  (hn : ∀ a' w', RE c env' a'.tmps w' -> env'.length = env.length -> a'.defers = a.defers -> next a' w') : o.wp P a w next Q := by cases h
end
section
variable {P : Program} {o : Oper} {a : Act} {w : World} {Q : Exit -> Act -> World -> Prop} {c : Cx} {d : Nat} {T : Tab} {env : Env} {caps : FuncId -> List Ty}
theorem Y83 {b : Bool} {env' : Env} (h : selStep T caps o env = some (b, env')) : o.guard = none := by
 unfold selStep at h
 split at h
 ·assumption
 ·cases h
theorem Y84 (hT : TabOk P T) (hr : RE c env a.tmps w) {env' : Env} (h : selStep T caps o env = some (true, env'))
  (hn : ∀ a' w', RE c env' a'.tmps w' -> env'.length = env.length -> a'.defers = a.defers -> next a' w') : o.wp P a w next Q := by
 unfold selStep at h
 split at h
 ·rename_i d hg hdst
  split at h
  ·rename_i hd
   split at h
   ·rename_i env1 htb
    simp only [J0, J12, true_and] at h
    subst h
    exact Y82 hr hdst hd htb hn
   ·exact Y78 hT hr hdst hd h hn
  ·cases h
 ·cases h
end
theorem Y9s (r : Nat) : Fewer (renewG r) := by
 intro r' j p l
 unfold renewG
 simp only
 split
 ·exact .inl rfl
 ·exact .inr rfl
section
variable {c : Cx} {env : Env} {w : World}
theorem RP.renewR (hlen : env.length = tmps.size) (hrel : Rel c (SS env noP tmps vs w cs bs)) (hno : ∀ r, (∀ q ∈ (ovl env noP r).refs, q.1 < env.length) /\ (∀ q ∈ (ovl env noP r).ptrs, q < env.length)) {r : Nat} {e : BoxK} (hr : get env r = .con (.box e) ls) {B : Nat} (hB : bs r 0 = [B]) (htm : tmps.getD r undef = .pointer (some ⟨B, 0, none⟩)) (hbel : Below c.base w w') {ch' : List Value} {br bn : Nat -> List Nat} {ns : List Leaf} {k2 : Kind} {ls2 : List Leaf} {rv : Value} {cells2 : List Value}
  (hheap : ∀ b, b < w.heap.size -> (∀ l, b ∉ bs r l) -> w'.heap[b]? = w.heap[b]?) (hBh : w'.heap[B]? = some (.cells ch'.toArray e.id (0, 0))) (hfix : ∀ l, nthB e.fix l = true -> ch'[l]? = (cs r)[l]?)
  (hbr0 : br 0 = [B]) (hnl : ns.length = ch'.length) (hbrn : ∀ l, ns.length <= l -> br (l + 1) = []) (hn1 : ∀ l b, b ∈ br l -> b < w'.heap.size /\ (w.heap.size <= b \/ ∃ l', b ∈ bs r l')) (hn2 : ∀ l b, b ∈ bn l -> b < w'.heap.size /\ (w.heap.size <= b \/ ∃ l', b ∈ bs r l'))
  (hd1 : ∀ l l' b, b ∈ br l -> b ∈ br l' -> l = l') (hd2 : ∀ l l' b, b ∈ bn l -> b ∈ bn l' -> l = l') (hd3 : ∀ l l' b, b ∈ br l -> b ∉ bn l') (hnd1 : ∀ l, (br l).Nodup) (hnd2 : ∀ l, (bn l).Nodup)
  (hset1 : ∀ l ∈ ns, l.refs = []) (hset2 : ∀ l ∈ ls2, l.m.settled = true)
  (hleaf : let s' : St := ⟨upd (upd (chgE (renewG r) (ovl env noP)) r (.con (.box e) ns)) env.length (.con k2 ls2), upd (ovlT tmps vs) env.length rv, w', upd (upd cs r ch') env.length cells2, upd (upd bs r br) env.length bn⟩
   Keeps c (SS env noP tmps vs w cs bs) s' -> (∀ l lf u, ns[l]? = some lf -> ch'[l]? = some u -> LeafRel c s' r l u lf) /\ AVRel c s' env.length (.con k2 ls2) rv) :
  RP c (renewBox r (.box e) ns env) tmps w' (upd noP env.length (.con k2 ls2)) (upd vs env.length rv) := by
 have hrl : r < env.length := Yz hr
 have hrN : r ≠ env.length := J1g hrl
 let s' : St := ⟨upd (upd (chgE (renewG r) (ovl env noP)) r (.con (.box e) ns)) env.length (.con k2 ls2), upd (ovlT tmps vs) env.length rv, w', upd (upd cs r ch') env.length cells2, upd (upd bs r br) env.length bn⟩
 have hbN : ∀ l, bs env.length l = [] := by
  have := hrel.av env.length
  rw [show (SS env noP tmps vs w cs bs).env env.length = .undef by show ovl env noP _ = _; rw [Yu (Jh _)]; rfl] at this
  exact this
 have eR : s'.bs r = br := by show upd (upd bs r br) env.length bn r = _; rw [Y1 _ _ hrN, Y0]
 have eN : s'.bs env.length = bn := Y0 _ _ _
 have eO : ∀ p, p ≠ r -> p ≠ env.length -> s'.env p = (ovl env noP p).chg (renewG r) /\ s'.tm p = ovlT tmps vs p /\ s'.cs p = cs p /\ s'.bs p = bs p := fun p h1 h2 => by
  refine ⟨?_, Y1 _ _ h2, ?_, ?_⟩
  ·show upd (upd _ r _) env.length _ p = _
   rw [Y1 _ _ h2, Y1 _ _ h1]; rfl
  ·show upd (upd cs r ch') env.length cells2 p = _
   rw [Y1 _ _ h2, Y1 _ _ h1]
  ·show upd (upd bs r br) env.length bn p = _
   rw [Y1 _ _ h2, Y1 _ _ h1]
 have hstep : Rel c s' := by
  refine Rel.step (s := SS env noP tmps vs w cs bs) (s' := s') (renewG r) hrel (fun p => p = r \/ p = env.length) (fun a j => ∃ lf u, OwnPlace (SS env noP tmps vs w cs bs) a j lf u) (fun a => ∃ off v, PtrRel (SS env noP tmps vs w cs bs) a off v) (fun p hp => ?_) hbel (fun b hb hne => ?_) (fun p l b hp hb => ?_) (fun p l p' l' b hp hp' hb hb' => ?_) (fun p l hp => ?_) (fun p hp => ?_) (fun hk => ⟨?_, ?_, ?_⟩) (fun hk p hp => ?_)
  ·grind
  ·grind
  ·rcases hp with rfl | rfl
   ·rw [eR] at hb
    obtain ⟨h1, h2⟩ := hn1 l b hb
    exact ⟨h1, h2.imp id (fun ⟨l', h⟩ => ⟨p, l', .inl rfl, h⟩)⟩
   ·rw [eN] at hb
    obtain ⟨h1, h2⟩ := hn2 l b hb
    exact ⟨h1, h2.imp id (fun ⟨l', h⟩ => ⟨r, l', .inl rfl, h⟩)⟩
  ·rcases hp with rfl | rfl
   ·rcases hp' with rfl | rfl
    ·rw [eR] at hb hb'; exact ⟨rfl, hd1 _ _ _ hb hb'⟩
    ·rw [eR] at hb; rw [eN] at hb'; exact absurd hb' (hd3 _ _ _ hb)
   ·rcases hp' with rfl | rfl
    ·rw [eN] at hb; rw [eR] at hb'; exact absurd hb (hd3 _ _ _ hb')
    ·rw [eN] at hb hb'; exact ⟨rfl, hd2 _ _ _ hb hb'⟩
  ·rcases hp with rfl | rfl
   ·rw [eR]; exact hnd1 l
   ·rw [eN]; exact hnd2 l
  ·exact (hrel.av p).refs_own
  ·intro u t x r1 j p hL hbor
   unfold renewG
   simp only
   by_cases h1 : r1 = r
   ·rw [J4 h1]
    exact ⟨rfl, Rep.one hbor.1 u (by simp)⟩
   ·rw [J3 h1]
    refine ⟨rfl, ?_⟩
    obtain ⟨lf0, u0, h2, h3, h4⟩ := hL
    have hlt : r1 < env.length := by
     apply Nat.lt_of_not_le
     intro hge
     have : (SS env noP tmps vs w cs bs).env r1 = .undef := by show ovl env noP r1 = _; rw [Yu hge]; rfl
     rw [this] at h2; simp [AV.leaf?] at h2
    obtain ⟨o1, o2, o3, o4⟩ := eO r1 h1 (J1g hlt)
    refine BorRel.keep hk ⟨fun lf u hown => ?_, by rw [o4], fun b hb => ?_⟩ hbor
    ·obtain ⟨p1, p2, p3⟩ := hown
     refine ⟨?_, p2, by grind⟩
     rw [o1]
     have p1 : (ovl env noP r1).leaf? j = some lf := p1
     cases hv : ovl env noP r1 with
     | con k0 ls0 =>
      rw [hv] at p1
      simp only [AV.leaf?] at p1
      simp only [AV.chg, AV.leaf?]
      rw [Yj, p1]
      obtain ⟨t0, x0, m0⟩ := lf
      cases m0 with
      | at_ lv => rfl
      | bor _ _ _ => simp [Mode.own] at p2
      | dead => simp [Mode.own] at p2
     | _ => rw [hv] at p1; simp [AV.leaf?] at p1
    ·exact hheap b (hrel.own _ _ _ hb).2 (fun l hl => h1 (hrel.disj _ _ _ _ _ hb hl).1)
  ·intro a r1 j p i o hL hwr
   unfold renewG
   simp only
   by_cases h1 : r1 = r
   ·grind
   ·rw [show (r1 == r) = false from by simpa using h1]
    simp
    obtain ⟨lf0, u0, h2, h3, h4⟩ := hL
    have hlt : r1 < env.length := by
     apply Nat.lt_of_not_le
     intro hge
     have : (SS env noP tmps vs w cs bs).env r1 = .undef := by show ovl env noP r1 = _; rw [Yu hge]; rfl
     rw [this] at h2; simp [AV.leaf?] at h2
    obtain ⟨o1, o2, o3, o4⟩ := eO r1 h1 (J1g hlt)
    refine WrRel0.keep hk ⟨fun lf u hown => ?_, by rw [o4], fun b hb => ?_⟩ hwr
    ·obtain ⟨p1, p2, p3⟩ := hown
     refine ⟨?_, p2, by rw [o3]; exact p3⟩
     rw [o1]
     have p1 : (ovl env noP r1).leaf? j = some lf := p1
     cases hv : ovl env noP r1 with
     | con k0 ls0 =>
      rw [hv] at p1
      simp only [AV.leaf?] at p1
      simp only [AV.chg, AV.leaf?]
      rw [Yj, p1]
      obtain ⟨t0, x0, m0⟩ := lf
      cases m0 with
      | at_ lv => rfl
      | bor _ _ _ => simp [Mode.own] at p2
      | dead => simp [Mode.own] at p2
     | _ => rw [hv] at p1; simp [AV.leaf?] at p1
    ·exact hheap b (hrel.own _ _ _ hb).2 (fun l hl => h1 (hrel.disj _ _ _ _ _ hb hl).1)
  ·intro r1 hL _
   obtain ⟨off, v, e0, ls0, B0, q1, q2, q3⟩ := hL
   have q1 : ovl env noP r1 = .con (.box e0) ls0 := q1
   have hlt : r1 < env.length := by
    apply Nat.lt_of_not_le
    intro hge
    rw [Yu hge] at q1
    exact AV.noConfusion q1
   refine ⟨Y1 _ _ (J1g hlt), fun e1 ls1 h1 => ?_⟩
   by_cases h2 : r1 = r
   ·subst h2
    exact ⟨e, ns, by show upd (upd _ r1 _) env.length _ r1 = _; rw [Y1 _ _ hrN, Y0]⟩
   ·have h1 : ovl env noP r1 = .con (.box e1) ls1 := h1
    exact ⟨e1, chgs (renewG r) ls1, by rw [(eO r1 h2 (J1g hlt)).1, h1]; rfl⟩
  ·obtain ⟨hl1, hl2⟩ := hleaf hk
   rcases hp with rfl | rfl
   ·have ee : s'.env p = .con (.box e) ns := by show upd (upd _ p _) env.length _ p = _; rw [Y1 _ _ hrN, Y0]
    have et : s'.tm p = .pointer (some ⟨B, 0, none⟩) := by
     show upd (ovlT tmps vs) env.length rv p = _
     rw [Y1 _ _ hrN]
     exact (J4 (by omega)).trans htm
    have ec : s'.cs p = ch' := by show upd (upd cs p ch') env.length cells2 p = _; rw [Y1 _ _ hrN, Y0]
    have hav := hrel.av p
    rw [show (SS env noP tmps vs w cs bs).env p = .con (.box e) ls by show ovl env noP p = _; rw [Y8 hrl]; exact hr] at hav
    obtain ⟨⟨B1, g1, g2, g3, g4, g5⟩, _⟩ := hav
    rw [ee, et]
    refine ⟨⟨B, rfl, by rw [ec]; exact hBh, by rw [eR]; exact hbr0, fun hp => ?_, fun l hl => ?_⟩, by rw [ec]; exact hnl, fun l hl => by rw [eR]; exact hbrn l hl, fun l lf u hl hu => hl1 l lf u (by rw [<- Y2]; exact hl) (by grind)⟩
    ·grind
    ·grind
   ·have ee : s'.env env.length = .con k2 ls2 := Y0 _ _ _
    have et : s'.tm env.length = rv := Y0 _ _ _
    rw [ee, et]
    exact hl2
 have hbl : (renewBox r (.box e) ns env).length = env.length := by unfold renewBox; rw [Y4, Y7]
 have e1 : upd (upd (chgE (renewG r) (ovl env noP)) r (.con (.box e) ns)) env.length (.con k2 ls2) = ovl (renewBox r (.box e) ns env) (upd noP env.length (.con k2 ls2)) := by
  rw [Yb (by grind)]
  congr 1
  funext p
  by_cases hp : p < env.length
  ·rw [Y8 (by rw [hbl]; exact hp)]
   unfold renewBox
   rw [Y4j (by rw [Y7]; exact hrl), Y73]
   by_cases h1 : p = r
   ·rw [h1, Y0, Y0]
   ·rw [Y1 _ _ h1, Y1 _ _ h1]
    show (ovl env noP p).chg _ = (get env p).chg _
    rw [Y8 hp]
  ·rw [Yu (by rw [hbl]; omega), Y1 _ _ (by omega)]
   show (ovl env noP p).chg _ = _
   rw [Yu (by omega)]; rfl
 refine ⟨by rw [hbl]; exact hlen, _, _, Rel.congr hstep e1 (Y12 (by omega) rv).symm, fun p => ?_⟩
 rw [hbl, <- e1]
 by_cases h2 : p = env.length
 ·rw [h2, Y0, (Yd hset2).1, (Yd hset2).2]
  exact ⟨by simp, by simp⟩
 ·rw [Y1 _ _ h2]
  by_cases h1 : p = r
  ·rw [h1, Y0]
   refine ⟨fun q hq => ?_, by simp [AV.ptrs]⟩
   simp only [AV.refs, Jl] at hq
   obtain ⟨l, hl, hq⟩ := hq
   rw [hset1 l hl] at hq; simp at hq
  ·rw [Y1 _ _ h1]
   have := Yg (Y9s r) (ovl env noP p)
   exact ⟨fun q hq => (hno p).1 q (this.1 q hq), fun q hq => (hno p).2 q (this.2 q hq)⟩
end
theorem Y3h {b : BoxSig} : ∀ {ls : List Leaf} {n l : Nat} {lf : Leaf}, boxFits b n ls = true -> ls[l]? = some lf -> lf.m.settled = true /\ (∀ e τ, lf.t = .slice e τ -> (slotAt b.lv (n + l)).isFx = true \/ lf.m = b.md (n + l))
 | [], n, l, lf, _, hl => by simp at hl
 | a :: ls, n, 0, lf, h, hl => by
  obtain rfl : a = lf := by simpa using hl
  simp [boxFits] at h
  refine ⟨h.1.1, fun e τ ht => ?_⟩
  have := h.1.2
  rw [ht] at this
  simpa using this
 | a :: ls, n, l + 1, lf, h, hl => by
  simp [boxFits] at h
  have := Y3h (n := n + 1) (l := l) h.2 (by simpa using hl)
  rwa [show n + 1 + l = n + (l + 1) by omega] at this
theorem Y6p {b : BoxSig} : ∀ {ls : List Leaf} {n l : Nat} {lf : Leaf}, boxCalm b n ls = true -> ls[l]? = some lf -> ∀ e τ, lf.t = .slice e τ -> slotAt b.lv (n + l) = .fx \/ slotAt b.lv (n + l) = .dp
 | [], n, l, lf, _, hl => by simp at hl
 | a :: ls, n, 0, lf, h, hl => by
  obtain rfl : a = lf := by simpa using hl
  simp [boxCalm] at h
  intro e τ ht
  have := h.1
  rw [ht] at this
  simp
  cases hs : slotAt b.lv n <;> rw [hs] at this <;> simp_all
 | a :: ls, n, l + 1, lf, h, hl => by
  simp [boxCalm] at h
  have := Y6p (n := n + 1) (l := l) h.2 (by simpa using hl)
  rwa [show n + 1 + l = n + (l + 1) by omega] at this
theorem Y6q {b : BoxSig} : ∀ {ls : List Leaf} {n l : Nat} {lf : Leaf}, boxFxRo b n ls = true -> ls[l]? = some lf -> (slotAt b.lv (n + l)).isFx = true -> lf.m.own = false
 | [], n, l, lf, _, hl => by simp at hl
 | a :: ls, n, 0, lf, h, hl => by
  obtain rfl : a = lf := by simpa using hl
  simp [boxFxRo] at h
  intro hf
  rcases h.1 with h1 | h1
  ·grind
  ·exact h1
 | a :: ls, n, l + 1, lf, h, hl => by
  simp [boxFxRo] at h
  have := Y6q (n := n + 1) (l := l) h.2 (by simpa using hl)
  rwa [show n + 1 + l = n + (l + 1) by omega] at this
theorem Y53 : ∀ {fs : List Bool} {ss : List Slot} {l : Nat}, subFix fs ss = true -> nthB fs l = true -> (slotAt ss l).isFx = true
 | [], ss, l, _, h => by simp [nthB] at h
 | f :: fs, [], 0, h, h2 => by simp [subFix] at h; simp only [nthB] at h2; rw [h2] at h; simp at h
 | f :: fs, [], l + 1, h, h2 => by simp [subFix] at h; exact Y53 (ss := []) (l := l) h.2 h2
 | f :: fs, s :: ss, 0, h, h2 => by
  simp [subFix] at h
  simp [nthB] at h2
  rcases h.1 with h1 | h1
  ·grind
  ·exact h1
 | f :: fs, s :: ss, l + 1, h, h2 => by simp [subFix] at h; exact Y53 (fs := fs) (ss := ss) (l := l) h.2 h2
theorem Y3s {b : BoxSig} : ∀ {n : Nat} {ls ms : List Leaf}, ls.length = ms.length -> (mixLs b n ls ms).length = ls.length
 | n, [], [], _ => rfl
 | n, [], _ :: _, h => by simp at h
 | n, _ :: _, [], h => by simp at h
 | n, l :: ls, m :: ms, h => by simp [mixLs]; rw [Y3s (by simpa using h)]
theorem Y64 {b : BoxSig} : ∀ {n l : Nat} {ls ms : List Leaf} {lf : Leaf}, (mixLs b n ls ms)[l]? = some lf -> ((slotAt b.lv (n + l)).isFx = true /\ ls[l]? = some lf) \/ ((slotAt b.lv (n + l)).isFx = false /\ ms[l]? = some lf)
 | n, l, [], ms, lf, h => by simp [mixLs] at h
 | n, l, _ :: _, [], lf, h => by simp [mixLs] at h
 | n, 0, a :: ls, m :: ms, lf, h => by
  simp only [mixLs, Jg, J0] at h
  cases hs : (slotAt b.lv n).isFx with
  | true => grind
  | false => grind
 | n, l + 1, a :: ls, m :: ms, lf, h => by
  simp only [mixLs, J1d] at h
  have := Y64 (n := n + 1) (l := l) h
  rw [show n + 1 + l = n + (l + 1) by omega] at this
  simpa using this
def Leaf.dat (l : Leaf) : Σ t : Ty, t.D := ⟨l.t, l.x⟩
theorem Y6r {l : Leaf} {x : t.D} (h : l.as t = some x) : l.dat = ⟨t, x⟩ := by
 rw [Leaf.as_eq h]; rfl
theorem Y5n (md : Nat -> Mode) : ∀ (t : Ty) {ls : List Leaf} {x : t.D} {rest : List Leaf} (n : Nat), asm t ls = some (x, rest) -> ∃ pre, ls = pre ++ rest /\ pre.map Leaf.dat = (leaves t x md n).map Leaf.dat
 | .unit, ls, x, rest, n, h => by
  simp [asm] at h
  obtain ⟨_, rfl⟩ := h
  exact ⟨[], rfl, rfl⟩
 | .pair a b, ls, x, rest, n, h => by
  simp [asm] at h
  cases ha : asm a ls with
  | none => rw [ha] at h; simp at h
  | some q =>
   obtain ⟨xa, ra⟩ := q
   rw [ha] at h
   simp only at h
   cases hb : asm b ra with
   | none => rw [hb] at h; simp at h
   | some q =>
    obtain ⟨xb, rb⟩ := q
    rw [hb] at h
    simp at h
    obtain ⟨rfl, rfl⟩ := h
    obtain ⟨p1, e1, k1⟩ := Y5n md a n ha
    obtain ⟨p2, e2, k2⟩ := Y5n md b (n + a.sz) hb
    exact ⟨p1 ++ p2, by rw [e1, e2, J6], by simp [leaves, k1, k2]⟩
 | .int kk, ls, x, rest, n, h => by
  cases ls with
  | nil => simp [asm] at h
  | cons l ls =>
   simp [asm] at h
   cases hx : l.as (.int kk) with
   | none => rw [hx] at h; simp at h
   | some y =>
    rw [hx] at h
    simp at h
    obtain ⟨rfl, rfl⟩ := h
    exact ⟨[l], rfl, by simp only [J1x, J32, Y6r hx]; rfl⟩
 | .bool, ls, x, rest, n, h => by
  cases ls with
  | nil => simp [asm] at h
  | cons l ls =>
   simp [asm] at h
   cases hx : l.as .bool with
   | none => rw [hx] at h; simp at h
   | some y =>
    rw [hx] at h
    simp at h
    obtain ⟨rfl, rfl⟩ := h
    exact ⟨[l], rfl, by simp only [J1x, J32, Y6r hx]; rfl⟩
 | .str, ls, x, rest, n, h => by
  cases ls with
  | nil => simp [asm] at h
  | cons l ls =>
   simp [asm] at h
   cases hx : l.as .str with
   | none => rw [hx] at h; simp at h
   | some y =>
    rw [hx] at h
    simp at h
    obtain ⟨rfl, rfl⟩ := h
    exact ⟨[l], rfl, by simp only [J1x, J32, Y6r hx]; rfl⟩
 | .slice e τ, ls, x, rest, n, h => by
  cases ls with
  | nil => simp [asm] at h
  | cons l ls =>
   simp [asm] at h
   cases hx : l.as (.slice e τ) with
   | none => rw [hx] at h; simp at h
   | some y =>
    rw [hx] at h
    simp at h
    obtain ⟨rfl, rfl⟩ := h
    exact ⟨[l], rfl, by simp only [J1x, J32, Y6r hx]; rfl⟩
theorem Y20 (md : Nat -> Mode) : ∀ (t : Ty) (x : t.D) (n l : Nat) (lf : Leaf), (leaves t x md n)[l]? = some lf -> (lf.t.flatB = true /\ lf.m = .at_ .ro) \/ ((∃ e τ, lf.t = .slice e τ) /\ lf.m = md (n + l))
 | .unit, x, n, l, lf, h => by simp [leaves] at h
 | .int _, x, n, 0, lf, h => by simp only [leaves, Jg, J0] at h; subst h; exact .inl ⟨rfl, rfl⟩
 | .bool, x, n, 0, lf, h => by simp only [leaves, Jg, J0] at h; subst h; exact .inl ⟨rfl, rfl⟩
 | .str, x, n, 0, lf, h => by simp only [leaves, Jg, J0] at h; subst h; exact .inl ⟨rfl, rfl⟩
 | .slice e τ, x, n, 0, lf, h => by simp only [leaves, Jg, J0] at h; subst h; exact .inr ⟨⟨e, τ, rfl⟩, rfl⟩
 | .int _, x, n, l + 1, lf, h => by simp [leaves] at h
 | .bool, x, n, l + 1, lf, h => by simp [leaves] at h
 | .str, x, n, l + 1, lf, h => by simp [leaves] at h
 | .slice _ _, x, n, l + 1, lf, h => by simp [leaves] at h
 | .pair a b, x, n, l, lf, h => by
  simp [leaves] at h
  have ha : (leaves a x.1 md n).length = a.sz := by
   have := congrArg List.length (Y1l a x.1 md n)
   rw [J2f] at this
   rw [this, Y1w]
  by_cases hl : l < a.sz
  ·rw [Jo (by omega)] at h
   exact Y20 md a x.1 n l lf h
  ·rw [Jd (by omega), ha] at h
   have := Y20 md b x.2 (n + a.sz) (l - a.sz) lf h
   rwa [show n + a.sz + (l - a.sz) = n + l by omega] at this
end Go.FP

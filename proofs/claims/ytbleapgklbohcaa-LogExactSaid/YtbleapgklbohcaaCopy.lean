/-
  copy into a cut of a row of one's own: the law for the walk.
  No conditions.
-/
import Derived.Test.YtbleapgklbohcaaWWords
import Derived.Test.YtbleapgklbohcaaWMore
import Derived.Test.YtbleapgklbohcaaWLast
namespace Go.Proofs.YtbleapgklbohcaaW.PrintWords
open Go.RowKit
/-- What a copy makes of a row: from a place on, as many of the others as there are, or as there is room for. -/
def copyIn {α : Type} (L : List α) (off : Nat) (s : List α) : List α := L.take off ++ (s.take (L.length - off) ++ L.drop (off + min s.length (L.length - off)))
theorem copyIn_len {α : Type} (L : List α) (off : Nat) (s : List α) (h : off ≤ L.length) : (copyIn L off s).length = L.length := by
  unfold copyIn
  rw [List.length_append, List.length_append, List.length_take, List.length_take, List.length_drop]
  omega
theorem copyIn_none {α : Type} (L : List α) (off : Nat) (s : List α) (h : min s.length (L.length - off) = 0) (ho : off ≤ L.length) : copyIn L off s = L := by
  unfold copyIn
  rw [h, Nat.add_zero]
  have e : s.take (L.length - off) = [] := by
    rw [List.take_eq_nil_iff]
    rcases Nat.eq_zero_or_pos s.length with h1 | h1
    · exact .inr (List.length_eq_zero_iff.1 h1)
    · exact .inl (by omega)
  rw [e, List.nil_append, List.take_append_drop]
namespace Kd
section
variable {α : Type} {P : Program} {w : World} {ops : Array Oper} {rest : List Oper} {o : Oper} {a : Act} {Q : Exit → Act → World → Prop}
theorem R_copy_cut {enc : α → Value} {h1 : ∀ x, (enc x).oneCell' = true} (d : α) {w0 W : World} (base : Nat) (hgd : o.guard = none) (s x : Operand) (t t' e : TypeId)
    (ho : o.op = .call { callee := .builtin .copy, args := #[s, x], argTypes := #[t, t'] }) (ht : P.underlying t = some (.slice e)) (hinfo : (P.info? e).map (·.size) = some 1)
    (xs ys : List α) (A0 A1 A : Option Addr) (n0 n1 c0 c1 off m c : Nat) (ok : Nat → Prop) (hs : a.eval s = .slice A1 n1 c1) (hx : a.eval x = .slice A m c)
    (hn0 : n0 = xs.length) (hA : A1 = (if c0 = off then A0 else A0.map (·.add (off * 1)))) (hn : n1 = xs.length - off) (hoff : off ≤ xs.length)
    (HO : (scalar enc h1).R e W base ok (.slice A0 n0 c0) xs) (HR : (scalar enc h1).C W A m ys) (HB : Below base w0 W) (hbase : base ≤ W.heap.size)
    (h : ∀ w1, (scalar enc h1).R e w1 base ok (.slice A0 n0 c0) (copyIn xs off ys) → Below base w0 w1 → W.grownBy w1 (Value.slice A0 n0 c0).ownBlock → wpList P ops Q rest (a.put o.dst (.int .i64 ((min m n1 : Nat) : Int))) w1) :
    wpList P ops Q (o :: rest) a W := by
  have hR := reads_of_C (enc := enc) (d := d) (h1 := h1) HR
  have hm : ys.length = m := hR.1
  have hown := own_of_R HO
  have fin : ∀ w1, (Builtin.copy_ #[t, t'] o.type #[.slice A1 n1 c1, .slice A m c]).run P W = .ok (goInt ((min m n1 : Nat) : Int)) w1 → (scalar enc h1).R e w1 base ok (.slice A0 n0 c0) (copyIn xs off ys) → W.grownBy w1 (Value.slice A0 n0 c0).ownBlock → wpList P ops Q (o :: rest) a W := by
    intro w1 hr hrow hg
    refine wpList_plain hgd fun K hK => ?_
    unfold Oper.wp execOp
    simp only [ho, resolve, invoke, builtin, Sem.run_bind, Sem.run_pure, Result.andThen_ok, List.map_toArray, List.map_cons, List.map_nil, hs, hx, hr]
    exact hK _ _ (h w1 hrow (HB.grown hg hbase (own_base hown)) hg)
  rcases Nat.eq_zero_or_pos (min m n1) with h0 | hp
  · refine fin W ?_ (by rw [copyIn_none xs off ys (by rw [hm, ← hn]; exact h0) hoff]; exact HO) (World.grownBy.refl W _)
    rw [h0]
    exact run_copy_none W t t' o.type e A1 A n1 c1 m c ht hinfo h0
  · obtain ⟨ad, hA', hc⟩ := hR.2.2 (by omega)
    rcases hown.2 with ⟨hv, hx0⟩ | ⟨g, cap, cur, hv, hb, hh, hnc, hcm, hcs, htake⟩
    · omega
    obtain ⟨rfl, rfl, rfl⟩ : A0 = some ⟨g, 0, none⟩ ∧ n0 = xs.length ∧ c0 = cap := by
      injection hv with e1 e2 e3
      exact ⟨e1, hn0, e3⟩
    have hA1 : A1 = some ⟨g, off, none⟩ := by
      rw [hA, if_neg (by omega)]
      simp [Addr.add]
      exact fun h => h.symm
    have hcs1 : cur.size = c0 := by omega
    have hK : min m n1 ≤ n1 := Nat.min_le_right _ _
    obtain ⟨K, hKd⟩ : ∃ K, K = min m n1 := ⟨_, rfl⟩
    have hcl : (ys.take K).length = K := by rw [List.length_take]; omega
    have hsrc : ∀ j u, (encs enc (ys.take K))[j]? = some u → W.cell? (ad.add j) = some u := by
      intro j u hu
      have hj : j < (ys.take K).length := by
        rcases Nat.lt_or_ge j (ys.take K).length with h | h
        · exact h
        · rw [List.getElem?_eq_none (by rw [encs_length]; exact h)] at hu
          cases hu
      have hjm : j < K := by rw [hcl] at hj; exact hj
      rw [encs_get (d := d) _ j hj] at hu
      rw [hc j (by omega), ← hu]
      simp [List.getD_eq_getElem?_getD, hjm]
    have hkl : (encs enc (ys.take K)).length = K := by rw [encs_length, hcl]
    have hr := run_copy_cells (P := P) W t t' o.type e g off n1 c1 ad m c (encs enc (ys.take K)) ht hinfo (by rw [hkl, hKd]) hsrc
      (fun j hj => by rw [cell_of_row W g _ cur e (0, 0) hh]; simp; omega) (fun j _ => blk_frozen hh _) (by intro u hu; simp only [encs, List.mem_map] at hu; obtain ⟨q, _, rfl⟩ := hu; exact h1 q)
    obtain ⟨cur', h3, h4, h5⟩ := setCells_row (encs enc (ys.take K)) off W cur hh (by rw [hkl]; omega)
    obtain ⟨s1, s2, s3, s4⟩ := setCells_same g (encs enc (ys.take K)) off W
    have hlen := copyIn_len xs off ys hoff
    have htk : cur.toList.take xs.length = encs enc xs := by rw [← htake, Nat.mul_one]
    have hce : copyIn xs off ys = xs.take off ++ (ys.take K ++ xs.drop (off + K)) := by
      unfold copyIn
      have e1 : min ys.length (xs.length - off) = K := by omega
      rw [e1]
      congr 2
      rw [List.take_eq_take_iff]
      omega
    refine fin _ (by rw [hA1, hA', hr, hkl, hKd]) (R_of_own (xs := copyIn xs off ys) ?_ HO.1) ⟨s1, s2, s3, by rw [s4]; exact Nat.le_refl _, fun k _ hk => setCells_far _ _ k (fun he => hk (by rw [he]; simp [Value.ownBlock]))⟩
    rw [hlen]
    refine ⟨by rw [encs_length, hlen, Nat.mul_one], .inr ⟨g, c0, cur', rfl, hb, h3, hnc, hcm, by rw [h4, hcs], ?_⟩⟩
    rw [h5, hkl, Nat.mul_one, hce, encs_append, encs_append]
    have t1 : cur.toList.take off = encs enc (xs.take off) := by
      have : encs enc (xs.take off) = (encs enc xs).take off := by simp [encs, List.map_take]
      rw [this, ← htk, List.take_take, Nat.min_eq_left hoff]
    have t2 : (cur.toList.drop (off + K)).take (xs.length - (off + K)) = encs enc (xs.drop (off + K)) := by
      have : encs enc (xs.drop (off + K)) = (encs enc xs).drop (off + K) := by simp [encs, List.map_drop]
      rw [this, ← htk, List.drop_take]
    have lA : (encs enc (xs.take off)).length = off := by rw [encs_length, List.length_take]; omega
    rw [t1, List.append_assoc, List.take_append (l₁ := encs enc (xs.take off)), lA, List.take_of_length_le (l := encs enc (xs.take off)) (by rw [lA]; exact hoff), List.take_append (l₁ := encs enc (ys.take K)), hkl, List.take_of_length_le (l := encs enc (ys.take K)) (by rw [hkl]; omega)]
    rw [show xs.length - off - K = xs.length - (off + K) by omega, t2]
end
end Kd
end Go.Proofs.YtbleapgklbohcaaW.PrintWords

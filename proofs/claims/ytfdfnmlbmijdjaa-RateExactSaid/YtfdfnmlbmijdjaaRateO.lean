/-
  Walks of package rate: All.
  No conditions.
-/
import Derived.Test.YtfdfnmlbmijdjaaRateN
namespace Go.Proofs.Ytfdfnmlbmijdjaa.Rt
open Go.RowKit Go.Lib Go.Proofs.YtfdfnmlbmijdjaaW.PrintWords Go.Proofs.YtfdfnmlbmijdjaaW.PrintLast Go.Proofs.YtfdfnmlbmijdjaaW.PrintMore
set_option linter.unusedVariables false
set_option linter.unusedSimpArgs false
structure Sb where
  (a b p q : Int)
  deriving DecidableEq
def kS : Kd Sb := Kd.iso (Kd.pair (Kd.int .i64) (Kd.pair (Kd.int .i64) (Kd.pair (Kd.int .i64) (Kd.int .i64)))) (fun x : Sb => (x.a, x.b, x.p, x.q))
theorem kS_openM {w : World} {base : Nat} {ok : Nat → Prop} {x : Sb} {cs : List Value} (h : kS.M w base ok x cs) : cs = [.int .i64 x.a, .int .i64 x.b, .int .i64 x.p, .int .i64 x.q] := by
  obtain ⟨_, _, rfl, rfl, ⟨_, _, rfl, rfl, ⟨_, _, rfl, rfl, rfl⟩⟩⟩ := h
  exact rfl
theorem kS_mkM (w : World) (base : Nat) (ok : Nat → Prop) (x : Sb) : kS.M w base ok x [.int .i64 x.a, .int .i64 x.b, .int .i64 x.p, .int .i64 x.q] := ⟨[.int .i64 x.a], [.int .i64 x.b, .int .i64 x.p, .int .i64 x.q], rfl, rfl, ⟨[.int .i64 x.b], [.int .i64 x.p, .int .i64 x.q], rfl, rfl, ⟨[.int .i64 x.p], [.int .i64 x.q], rfl, rfl, rfl⟩⟩⟩
theorem infoS : (Try.prog.info? 29).map (fun i => (i.zero, i.size, i.bytes)) = some (some (.agg #[.int .i64 0, .int .i64 0, .int .i64 0, .int .i64 0]), 4, 32) := by kernel_rfl
def Ent.sub (x : Ent) : Sb := ⟨x.a, x.b, x.p, x.q⟩
theorem Tab.cells {base : Nat} {w : World} {g n c : Nat} {b : Nat} {E : List Ent} (h : Tab base w g (.slice (some ⟨b, 0, none⟩) n c) E) (j : Nat) (hj : j < E.length) (k : Nat) (u : Value) (hu : (enc E[j]!)[k]? = some u) : w.cell? ⟨b, j * 7 + k, none⟩ = some u := by
  have h3 := h.2.cells (g := b) rfl (j * 7 + k) u (flat_get E j hj k u hu)
  rwa [add_plain] at h3
set_option maxHeartbeats 8000000 in
set_option maxRecDepth 100000 in
theorem all_ (base g : Nat) (v : Value) (E : List Ent) (W : World) (h : Tab base W g v E) (hsz : E.length < 1099511627776) : Calls Try.prog 16 #[.pointer (some ⟨g, 0, none⟩)] W fun e w' => ∃ v', e = .returned v' ∧ Kd.R kS 29 w' W.heap.size (fun _ => True) v' (E.map Ent.sub) ∧ Below W.heap.size W w' := by
  obtain ⟨A, c, rfl⟩ := h.slice
  have hg : g < W.heap.size := blk_lt h.1
  have hc0 : W.cell? ⟨g, 0, none⟩ = some (.slice A E.length c) := (blk_cell h.1 0).trans rfl
  have hcell : ∀ i, i < E.length → ∃ b, A = some ⟨b, 0, none⟩ ∧ b < W.heap.size ∧ E.length ≤ c ∧ ∀ k u, (enc E[i]!)[k]? = some u → W.cell? ⟨b, i * 7 + k, none⟩ = some u := fun i hi => by
    obtain ⟨b, rfl, hbc, _⟩ := h.block (by omega)
    exact ⟨b, rfl, own_lt h.2 b rfl, hbc, fun k u hu => h.cells i hi k u hu⟩
  have HC := Lib.hid hcell
  obtain ⟨n, hn⟩ : ∃ n, n = E.length := ⟨_, rfl⟩
  rw [← hn] at HC hc0 hsz
  have HN := Lib.hid hn
  clear h hcell hn
  go_enter Try.func16, Try.ntmps16
  go_wp2_with fail
  refine Cu.wp_loop (Cu.rep 2 Cu.f (Cu.rep 1 Cu.t (Cu.rep 1 Cu.f (Cu.rep 1 Cu.t (Cu.rep 6 Cu.f (Cu.rep 11 Cu.t (Cu.rep 1 Cu.f []))))))) 13 (fun kq us_ w' => ∃ i : Nat, (Cu.nth us_ 2) = .int .i64 (i : Int) ∧ Aside0 (kq + i = n) ∧ Aside0 (Kd.R kS 29 w' W.heap.size (fun _ => True) (Cu.nth us_ 0) ((E.take i).map Ent.sub)) ∧ Aside0 (Below W.heap.size W w')) n ?_ (by kernel_rfl) (by kernel_rfl) ?_
  · try dsimp only [Cu.pick, Cu.rep, Cu.nth]
    exact ⟨0, rfl, ⟨rfl⟩, ⟨Kd.R_nil _ _ _ _ _⟩, ⟨Below.refl _ _⟩⟩
  · intro gk wr u2 u4 u11 u12 u13 u14 u15 u16 u17 u18 u19 u20 u21
    try dsimp only [Cu.over, Cu.rep, Cu.nth]
    intro hrel _ _ _ _
    obtain ⟨i, rfl, HK, HO, HB⟩ := hrel
    by_cases hi : i < n
    · obtain ⟨b, rfl, hbl, hbc, hcl⟩ := HC.out i (by have := HN.out; omega)
      have hcl' : ∀ k u, (enc E[i]!)[k]? = some u → wr.cell? ⟨b, i * 7 + k, none⟩ = some u := fun k u hu => (HB.out.cell hbl).trans (hcl k u hu)
      have htk : (E.take (i + 1)).map Ent.sub = (E.take i).map Ent.sub ++ [E[i]!.sub] := by
        rw [List.take_add_one, List.getElem?_eq_getElem (by have := HN.out; omega), List.map_append]
        rw [getElem!_pos E i (by have := HN.out; omega)]
        rfl
      generalize hy : E[i]! = y at hcl' htk
      obtain ⟨y1, y2, y3, y4, y5, y6, y7⟩ := y
      have c0 : wr.cell? ⟨b, i * 7, none⟩ = some (.int .i64 y1) := hcl' 0 _ rfl
      have c1 := hcl' 1 _ rfl
      have c2 := hcl' 2 _ rfl
      have c3 := hcl' 3 _ rfl
      have c4 := hcl' 4 _ rfl
      have c5 := hcl' 5 _ rfl
      have c6 := hcl' 6 _ rfl
      have hii : (i : Int) < (n : Int) := by omega
      have HT := Lib.hid htk
      have HX := Lib.hid (show (i + 1) * 32 ≤ 140737488355328 from by omega)
      clear hcl hcl' hy htk hi
      go_wp2_with (at_builtin; refine Kd.R_append kS (w0 := W) W.heap.size rfl (.tmp 15) (.tmp 19) 44 29 (.agg #[.int .i64 0, .int .i64 0, .int .i64 0, .int .i64 0]) 32 rfl Try.underlying44 infoS rfl (by decide) (by omega) u2 ((E.take i).map Ent.sub) ⟨y3, y4, y5, y6⟩ [.int .i64 y3, .int .i64 y4, .int .i64 y5, .int .i64 y6] (fun _ => True) (fun _ => False) rfl (by simp [Act.eval]) ?aP (fun _ hk => hk.elim) ?aF ?aO ?aB ?aS ?aL ?_; (case aP => exact kS_mkM _ _ _ _); (case aF => exact (fun _ _ => trivial)); (case aO => exact Kd.R_below HO.out (below_alloc (Below.refl _ _) _)); (case aB => exact below_alloc HB.out _); (case aS => exact below_size (below_alloc HB.out _)); (case aL => rw [List.length_map, List.length_take]; have := HX.out; omega); intro v1 w10 ho hb hg hat; have HO2 := Aside0.mk ho; have HB2 := Aside0.mk hb; clear ho hb hg hat)
      refine Cu.handed (n - (i + 1)) (by have := HK.out; omega) (by assumption) ?_ (by kernel_rfl) (by kernel_rfl)
      try dsimp only [Cu.pick, Cu.rep, Cu.nth]
      exact ⟨i + 1, by rw [Int.natCast_add]; rfl, ⟨by omega⟩, ⟨by rw [HT.out]; exact HO2.out⟩, HB2⟩
    · go_wp2
      go_ret
      refine ⟨_, rfl, ?_, HB.out⟩
      have he : E.take i = E := List.take_of_length_le (by have := HN.out; omega)
      have := HO.out
      rw [he] at this
      exact this
end Go.Proofs.Ytfdfnmlbmijdjaa.Rt

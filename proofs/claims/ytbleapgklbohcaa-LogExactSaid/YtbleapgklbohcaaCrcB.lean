import Derived.Test.YtbleapgklbohcaaCrcA
import Derived.Test.YtbleapgklbohcaaWWords
import Derived.Test.YtbleapgklbohcaaWLast
import Derived.Test.YtbleapgklbohcaaWMore
namespace Go.Proofs.Ytbleapgklbohcaa
open Go.RowKit Go.Proofs.YtbleapgklbohcaaW.PrintWords Go.Proofs.YtbleapgklbohcaaW.PrintLast Go.Proofs.YtbleapgklbohcaaW.PrintMore
theorem bits8_ge (o : BinOp) (a b : Int) : 0 ≤ Go.bits o .u8 a b := by
  unfold Go.bits
  rw [IntKind.wrap_u8]; omega
theorem bits8_lt (o : BinOp) (a b : Int) : Go.bits o .u8 a b < 256 := by
  unfold Go.bits
  rw [IntKind.wrap_u8]; omega
theorem rowTo_get (n k : Nat) (h : k < n) (hk : k < 256) : (rowTo n)[k]? = some (.int .u16 (rowAt k)) := by
  induction n with
  | zero => omega
  | succ n ih =>
    simp only [rowTo]
    by_cases e : k = n
    · subst e
      rw [Array.getElem?_setIfInBounds_self_of_lt (by rw [rowTo_size]; exact hk)]
    · rw [Array.getElem?_setIfInBounds_ne (Ne.symm e)]
      exact ih (by omega)
/-- One byte more. -/
def stepOf (s y : Int) : Int := Go.bits .xor .u16 (IntKind.u16.wrap (s * 256)) (rowAt (Go.bits .xor .u8 (s / 256 % 256) y).toNat)
def inn1 (s x : Int) : Nat → Int
  | 0 => stepOf s x
  | _ => s
def inn4 (s x : Int) : Nat → Int
  | 0 => stepOf (stepOf (stepOf (stepOf s (x / 16777216 % 256)) (x / 65536 % 256)) (x / 256 % 256)) (x % 256)
  | 1 => stepOf (stepOf (stepOf s (x / 16777216 % 256)) (x / 65536 % 256)) (x / 256 % 256)
  | 2 => stepOf (stepOf s (x / 16777216 % 256)) (x / 65536 % 256)
  | 3 => stepOf s (x / 16777216 % 256)
  | _ => s
def sumB (l : List Int) : Nat → Int
  | 0 => 65535
  | k + 1 => inn1 (sumB l k) (rd l k) 0
def sumW (l : List Int) : Nat → Int
  | 0 => 65535
  | k + 1 => inn4 (sumW l k) (rd l k) 0

set_option maxHeartbeats 1000000 in
set_option maxRecDepth 100000 in
theorem sumW_any (A0 : Option Addr) (c0 : Nat) (l : List Int) (w : World) (hr0 : Kd.C (Kd.int .u32) w A0 l.length l) (_hc0 : l.length ≤ c0) :
    Calls Try.prog 32 #[.slice A0 l.length c0, .int .i64 4] w fun e w' => e = .returned (.int .u16 (sumW l l.length)) ∧ Below w.heap.size w w' := by
  have HR0 := Aside0.mk hr0
  clear hr0
  have hz := zero37
  have hi : (Try.prog.info? 71).map (·.size) = some (rowTo 256).size := by rw [rowTo_size]; kernel_rfl
  have h1 := Aside0.mk (rowTo_one 256)
  have hzs : Z256.size = (rowTo 256).size := by rw [rowTo_size]; rfl
  have hg := heap_alloc2_new w (.cells (rowTo 256) 71) (.cells Z256 71)
  have hsr : ((w.alloc (.cells (rowTo 256) 71)).alloc (.cells Z256 71)).setRow (w.heap.size + 1) (rowTo 256) = (w.alloc (.cells (rowTo 256) 71)).alloc (.cells (rowTo 256) 71) := by
    have := World.setRow_alloc_new (w.alloc (.cells (rowTo 256) 71)) Z256 (rowTo 256) 71
    rwa [World.size_alloc] at this
  have hsr' := Aside0.mk hsr
  clear hsr
  go_enter Try.func32, Try.ntmps32
  go_wp2_with (first | (go_at_call 35; refine (row_any _).mono ?_; rintro e w' ⟨rfl, rfl⟩) | (refine wpList_store_row rfl 71 (.tmp 5) (.tmp 10) rfl (w.heap.size + 1) (rowTo 256) rfl rfl 71 Z256 hg hi hzs h1.out ?_; rw [hsr'.out]))
  clear hg hsr' hzs h1 hi hz
  have HR : Aside0 (Kd.C (Kd.int .u32) ((w.alloc (.cells (rowTo 256) 71)).alloc (.cells (rowTo 256) 71)) A0 l.length l) := ⟨Kd.C_alloc (Kd.C_alloc HR0.out _) _⟩
  have HCell : Aside0 (∀ i : Nat, i < 256 → ((w.alloc (.cells (rowTo 256) 71)).alloc (.cells (rowTo 256) 71)).cell? ⟨w.heap.size + 1, i, none⟩ = some (.int .u16 (rowAt i))) := ⟨fun i hi => by
    rw [cell_of_row _ _ i (rowTo 256) 71 (0,0) (heap_alloc2_new w _ _)]
    exact rowTo_get 256 i hi hi⟩
  have HB : Aside0 (Below w.heap.size w ((w.alloc (.cells (rowTo 256) 71)).alloc (.cells (rowTo 256) 71))) := ⟨((Below.refl _ _).alloc (Nat.le_refl _) _).alloc (by simp) _⟩
  generalize (w.alloc (.cells (rowTo 256) 71)).alloc (.cells (rowTo 256) 71) = W at *
  go_loopg [6, 13] (l.length : Nat) (fun kq v6 v13 w' => ∃ (k : Nat), v13 = .int .i64 k ∧ v6 = .int .u16 (sumW l k) ∧ k + kq = l.length ∧ w' = W)
  case atStart => exact ⟨0, rfl, rfl, by omega, rfl⟩
  case round =>
    obtain ⟨k, rfl, rfl, hk, rfl⟩ := hrel
    by_cases hlt : k < l.length
    · obtain ⟨ad, hA, hcell⟩ := Kd.at_int HR.out (k : Int) (by omega) (by omega)
      cases hA
      have hd : decide ((k : Int) < l.length) = true := decide_eq_true (by omega)
      rw [Int.toNat_natCast] at hcell
      go_wp2
      go_loopg [6, 9] (4 : Nat) (fun jq v6 v9 w' => v6 = .int .u16 (inn4 (sumW l k) (rd l k) jq) ∧ v9 = .int .i64 ((jq : Int) - 1) ∧ jq ≤ 4 ∧ w' = wr)
      case atStart => exact ⟨rfl, rfl, by omega, rfl⟩
      case round =>
        rename_i gk0
        obtain ⟨rfl, rfl, hj, hw⟩ := hrel
        have hk' := Aside0.mk hk
        clear hk
        have hmx := Kd.C_max HR.out
        obtain rfl | rfl | rfl | rfl | rfl : gk = 4 ∨ gk = 3 ∨ gk = 2 ∨ gk = 1 ∨ gk = 0 := by omega
        · subst hw
          have hj1 : ((4 : Nat) : Int) - 1 = 3 := rfl
          rw [hj1]
          clear hj1
          have HN : Aside0 (Value.int .u16 (stepOf (inn4 (sumW l k) (rd l k) 4) (rd l k / 16777216 % 256)) = .int .u16 (inn4 (sumW l k) (rd l k) 3)) := ⟨rfl⟩
          generalize inn4 (sumW l k) (rd l k) 4 = s at *
          have hx0 := bits8_ge .xor (s / 256 % 256) (rd l k / 16777216 % 256)
          have hx1 := bits8_lt .xor (s / 256 % 256) (rd l k / 16777216 % 256)
          have hxc := HCell.out (Go.bits .xor .u8 (s / 256 % 256) (rd l k / 16777216 % 256)).toNat (by omega)
          go_wp2
          go_roundg 3
          case measure => omega
          case rel => exact ⟨HN.out, rfl, by omega, rfl⟩
        · subst hw
          have hj1 : ((3 : Nat) : Int) - 1 = 2 := rfl
          rw [hj1]
          clear hj1
          have HN : Aside0 (Value.int .u16 (stepOf (inn4 (sumW l k) (rd l k) 3) (rd l k / 65536 % 256)) = .int .u16 (inn4 (sumW l k) (rd l k) 2)) := ⟨rfl⟩
          generalize inn4 (sumW l k) (rd l k) 3 = s at *
          have hx0 := bits8_ge .xor (s / 256 % 256) (rd l k / 65536 % 256)
          have hx1 := bits8_lt .xor (s / 256 % 256) (rd l k / 65536 % 256)
          have hxc := HCell.out (Go.bits .xor .u8 (s / 256 % 256) (rd l k / 65536 % 256)).toNat (by omega)
          go_wp2
          go_roundg 2
          case measure => omega
          case rel => exact ⟨HN.out, rfl, by omega, rfl⟩
        · subst hw
          have hj1 : ((2 : Nat) : Int) - 1 = 1 := rfl
          rw [hj1]
          clear hj1
          have HN : Aside0 (Value.int .u16 (stepOf (inn4 (sumW l k) (rd l k) 2) (rd l k / 256 % 256)) = .int .u16 (inn4 (sumW l k) (rd l k) 1)) := ⟨rfl⟩
          generalize inn4 (sumW l k) (rd l k) 2 = s at *
          have hx0 := bits8_ge .xor (s / 256 % 256) (rd l k / 256 % 256)
          have hx1 := bits8_lt .xor (s / 256 % 256) (rd l k / 256 % 256)
          have hxc := HCell.out (Go.bits .xor .u8 (s / 256 % 256) (rd l k / 256 % 256)).toNat (by omega)
          go_wp2
          go_roundg 1
          case measure => omega
          case rel => exact ⟨HN.out, rfl, by omega, rfl⟩
        · subst hw
          have hj1 : ((1 : Nat) : Int) - 1 = 0 := rfl
          rw [hj1]
          clear hj1
          have HN : Aside0 (Value.int .u16 (stepOf (inn4 (sumW l k) (rd l k) 1) (rd l k % 256)) = .int .u16 (inn4 (sumW l k) (rd l k) 0)) := ⟨rfl⟩
          generalize inn4 (sumW l k) (rd l k) 1 = s at *
          have hx0 := bits8_ge .xor (s / 256 % 256) (rd l k % 256)
          have hx1 := bits8_lt .xor (s / 256 % 256) (rd l k % 256)
          have hxc := HCell.out (Go.bits .xor .u8 (s / 256 % 256) (rd l k % 256)).toNat (by omega)
          go_wp2
          go_roundg 0
          case measure => omega
          case rel => exact ⟨HN.out, rfl, by omega, rfl⟩
        · subst hw
          have hj1 : ((0 : Nat) : Int) - 1 = -1 := rfl
          rw [hj1]
          clear hj1
          have HN : Aside0 (Value.int .u16 (inn4 (sumW l k) (rd l k) 0) = .int .u16 (sumW l (k + 1))) := ⟨rfl⟩
          go_wp2
          have hk := hk'.out
          go_roundg (l.length - (k + 1))
          case measure => omega
          case rel => exact ⟨k + 1, by go_num, HN.out, by omega, rfl⟩
    · have hd : decide ((k : Int) < l.length) = false := decide_eq_false (by omega)
      obtain rfl : k = l.length := by omega
      go_wp2
      go_ret
      exact ⟨rfl, HB.out⟩

set_option maxHeartbeats 400000 in
theorem Words_any (A0 : Option Addr) (c0 : Nat) (l : List Int) (w : World) (hr0 : Kd.C (Kd.int .u32) w A0 l.length l) (hc0 : l.length ≤ c0) :
    Calls Try.prog 25 #[.slice A0 l.length c0] w fun e w' => e = .returned (.int .u16 (sumW l l.length)) ∧ Below w.heap.size w w' := by
  have HR0 := Aside0.mk hr0
  clear hr0
  go_enter Try.func25, Try.ntmps25
  go_wp2_with (go_at_call 32; refine (sumW_any _ _ _ _ HR0.out hc0).mono ?_; rintro e w' ⟨rfl, hb⟩)
  go_ret
  exact ⟨rfl, hb⟩

end Go.Proofs.Ytbleapgklbohcaa


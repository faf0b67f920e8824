import Derived.Test.YtbleapgklbohcaaProg
import Derived.Below
import Derived.WalkKit
import Derived.KernelRfl
import Derived.RowKit3
import Derived.Outline
import Derived.LoopTactic
import Derived.Deep.LoopGhost
import Derived.Deep.WholeRow
namespace Go.Proofs.Ytbleapgklbohcaa
open Go.RowKit
def Z256 : Array Value := Array.replicate 256 (.int .u16 0)
theorem zero37 (w : World) : (zeroValue 71).run Try.prog w = .ok (.agg Z256) w := by kernel_rfl
def crcStep (x : Int) : Int := if Go.bits .and .u16 x 32768 = 0 then IntKind.u16.wrap (x * 2) else Go.bits .xor .u16 (IntKind.u16.wrap (x * 2)) 4129
def crcIt : Nat → Int → Int
  | 0, x => x
  | n + 1, x => crcStep (crcIt n x)
def rowAt (k : Nat) : Int := crcIt 8 ((k : Int) * 256)
def rowTo : Nat → Array Value
  | 0 => Z256
  | k + 1 => (rowTo k).setIfInBounds k (.int .u16 (rowAt k))
theorem rowTo_size (k : Nat) : (rowTo k).size = 256 := by
  induction k with
  | zero => simp [rowTo, Z256]
  | succ k ih => simp [rowTo, ih]
theorem rowTo_one (k : Nat) : (rowTo k).all (·.oneCell') = true := by
  induction k with
  | zero => unfold rowTo; decide +kernel
  | succ k ih => 
    simp only [rowTo, Array.all_eq_true_iff_forall_mem] at *
    intro v hv
    rcases Array.mem_or_eq_of_mem_setIfInBounds hv with h | h
    · exact ih _ h
    · subst h; rfl
set_option maxHeartbeats 400000 in
set_option maxRecDepth 100000 in
theorem row_any (w : World) : Calls Try.prog 35 #[] w fun e w' => e = .returned (.agg (rowTo 256)) ∧ w' = w.alloc (.cells (rowTo 256) 71) := by
  have hz := zero37
  go_enter Try.func35, Try.ntmps35
  go_wp2
  go_loopg [4] (256 : Nat) (fun kq v4 w' => ∃ (k : Nat), v4 = .int .i64 k ∧ k + kq = 256 ∧ w' = w.alloc (.cells (rowTo k) 71))
  case atStart => exact ⟨0, rfl, rfl, rfl⟩
  case round =>
    obtain ⟨k, rfl, hk, rfl⟩ := hrel
    by_cases hlt : k < 256
    · have hs := rowTo_size k
      have hc : (rowTo k)[k]? = some ((rowTo k)[k]'(by omega)) := by simp
      have hd : decide ((k : Int) < 256) = true := decide_eq_true (by omega)
      go_wp2
      go_loopg [2, 10] (8 : Nat) (fun jq v2 v10 w' => ∃ (j : Nat), v10 = .int .i64 j ∧ v2 = .int .u16 (crcIt j ((k : Int) * 256)) ∧ j + jq = 8 ∧ w' = w.alloc (.cells (rowTo k) 71))
      case atStart => exact ⟨0, rfl, rfl, rfl, rfl⟩
      case round =>
        rename_i gk2
        obtain ⟨j, rfl, rfl, hj, rfl⟩ := hrel
        by_cases hlt2 : j < 8
        · have hd2 : decide ((j : Int) < 8) = true := decide_eq_true (by omega)
          have HS : Hid (crcIt (j+1) ((k : Int) * 256) = crcStep (crcIt j ((k : Int) * 256))) := rfl
          generalize crcIt j ((k : Int) * 256) = x at *
          by_cases hb : Go.bits .and .u16 x 32768 = 0
          · have hb' : (Go.bits .and .u16 x 32768 != 0) = false := by simpa using hb
            have HS2 : Hid (crcStep x = IntKind.u16.wrap (x * 2)) := by unfold crcStep; rw [if_pos hb]; rfl
            clear hb
            go_wp2
            go_roundg (7 - j)
            case measure => omega
            case rel => exact ⟨j + 1, by go_num, by rw [HS.out, HS2.out], by omega, rfl⟩
          · have hb' : (Go.bits .and .u16 x 32768 != 0) = true := by simpa using hb
            have HS2 : Hid (crcStep x = Go.bits .xor .u16 (IntKind.u16.wrap (x * 2)) 4129) := by unfold crcStep; rw [if_neg hb]; rfl
            clear hb
            go_wp2
            go_roundg (7 - j)
            case measure => omega
            case rel => exact ⟨j + 1, by go_num, by rw [HS.out, HS2.out], by omega, rfl⟩
        · have hd2 : decide ((j : Int) < 8) = false := decide_eq_false (by omega)
          obtain rfl : j = 8 := by omega
          go_wp2
          go_roundg (255 - k)
          case measure => omega
          case rel => exact ⟨k + 1, by go_num, by omega, by rfl⟩
    · obtain rfl : k = 256 := by omega
      have hi : (Try.prog.info? 71).map (·.size) = some (rowTo 256).size := by rw [rowTo_size]; kernel_rfl
      have h1 : (rowTo 256).all (·.oneCell') = true := rowTo_one 256
      have hg := heap_alloc_new w (.cells (rowTo 256) 71)
      go_wp2_with (first | (refine wpList_load_row rfl 71 (.tmp 0) rfl w.heap.size rfl 71 (rowTo 256) (0,0) (.array 256 56) hg (by kernel_rfl) rfl hi ?_) | (refine wpList_store_row rfl 71 (.tmp 0) (.tmp 25) rfl w.heap.size (rowTo 256) rfl rfl 71 (rowTo 256) hg hi rfl h1 ?_; rw [World.setRow_alloc_new]))
      exact bodyPost_ret (v := .agg (rowTo 256)) (results_cell_row (fn := Try.f35) (p := 0) (ty := 71) rfl _ _ w.heap.size 71 (rowTo 256) (0,0) (.array 256 56) rfl (heap_alloc_new _ _) (by kernel_rfl) rfl (by rw [rowTo_size]; kernel_rfl)) rfl ⟨rfl, rfl⟩
end Go.Proofs.Ytbleapgklbohcaa

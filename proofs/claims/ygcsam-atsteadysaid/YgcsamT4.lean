/-
  CLOSED FACTS ON THE TYPES, MORE. Laid by a small program of this seat.
-/
import Derived.Test.YgcsamT3
namespace Go.Proofs.Ygcsam
theorem st48 : strP Samg.prog 48 (fun i => (#[(0, 4), (4, 1), (5, 1), (6, 1)] : Array (Nat × Nat))[i]?) := ⟨_, Samg.underlying48, #[(0, 4), (4, 1), (5, 1), (6, 1)], fun w => by kernel_rfl, rfl⟩
theorem st51 : strP Samg.prog 51 (fun i => (#[(0, 1), (1, 4), (5, 4), (9, 1), (10, 1), (11, 1), (12, 1), (13, 7), (20, 1), (21, 4)] : Array (Nat × Nat))[i]?) := ⟨_, Samg.underlying51, #[(0, 1), (1, 4), (5, 4), (9, 1), (10, 1), (11, 1), (12, 1), (13, 7), (20, 1), (21, 4)], fun w => by kernel_rfl, rfl⟩
theorem st55 : strP Samg.prog 55 (fun i => (#[(0, 1), (1, 20), (21, 32), (53, 32), (85, 1), (86, 1), (87, 1), (88, 1)] : Array (Nat × Nat))[i]?) := ⟨_, Samg.underlying55, #[(0, 1), (1, 20), (21, 32), (53, 32), (85, 1), (86, 1), (87, 1), (88, 1)], fun w => by kernel_rfl, rfl⟩
theorem st90 : strP Samg.prog 90 (fun i => (#[(0, 20), (20, 1), (21, 32), (53, 1), (54, 1)] : Array (Nat × Nat))[i]?) := ⟨_, Samg.underlying90, #[(0, 20), (20, 1), (21, 32), (53, 1), (54, 1)], fun w => by kernel_rfl, rfl⟩
theorem st126 : strP Samg.prog 126 (fun i => (#[(0, 20), (20, 1), (21, 1)] : Array (Nat × Nat))[i]?) := ⟨_, Samg.underlying126, #[(0, 20), (20, 1), (21, 1)], fun w => by kernel_rfl, rfl⟩
theorem st148 : strP Samg.prog 148 (fun i => (#[(0, 20), (20, 1), (21, 4), (25, 1), (26, 1), (27, 1), (28, 1)] : Array (Nat × Nat))[i]?) := ⟨_, Samg.underlying148, #[(0, 20), (20, 1), (21, 4), (25, 1), (26, 1), (27, 1), (28, 1)], fun w => by kernel_rfl, rfl⟩
theorem st150 : strP Samg.prog 150 (fun i => (#[(0, 32), (32, 32)] : Array (Nat × Nat))[i]?) := ⟨_, Samg.underlying150, #[(0, 32), (32, 32)], fun w => by kernel_rfl, rfl⟩
theorem st153 : strP Samg.prog 153 (fun i => (#[(0, 1), (1, 4), (5, 4), (9, 4), (13, 1)] : Array (Nat × Nat))[i]?) := ⟨_, Samg.underlying153, #[(0, 1), (1, 4), (5, 4), (9, 4), (13, 1)], fun w => by kernel_rfl, rfl⟩
theorem st172 : strP Samg.prog 172 (fun i => (#[(0, 1), (1, 4), (5, 4)] : Array (Nat × Nat))[i]?) := ⟨_, Samg.underlying172, #[(0, 1), (1, 4), (5, 4)], fun w => by kernel_rfl, rfl⟩
theorem st178 : strP Samg.prog 178 (fun i => (#[(0, 1), (1, 1), (2, 1), (3, 4), (7, 1), (8, 1)] : Array (Nat × Nat))[i]?) := ⟨_, Samg.underlying178, #[(0, 1), (1, 1), (2, 1), (3, 4), (7, 1), (8, 1)], fun w => by kernel_rfl, rfl⟩
theorem st183 : strP Samg.prog 183 (fun i => (#[(0, 1), (1, 4), (5, 1)] : Array (Nat × Nat))[i]?) := ⟨_, Samg.underlying183, #[(0, 1), (1, 4), (5, 1)], fun w => by kernel_rfl, rfl⟩
theorem zc5 : zchk Samg.prog 5 = true := by kernel_rfl
theorem zc21 : zchk Samg.prog 21 = true := by kernel_rfl
theorem zc24 : zchk Samg.prog 24 = true := by kernel_rfl
theorem zc30 : zchk Samg.prog 30 = true := by kernel_rfl
theorem zc38 : zchk Samg.prog 38 = true := by kernel_rfl
theorem zc45 : zchk Samg.prog 45 = true := by kernel_rfl
theorem zc48 : zchk Samg.prog 48 = true := by kernel_rfl
theorem zc49 : zchk Samg.prog 49 = true := by kernel_rfl
theorem zc51 : zchk Samg.prog 51 = true := by kernel_rfl
theorem zc55 : zchk Samg.prog 55 = true := by kernel_rfl
theorem zc87 : zchk Samg.prog 87 = true := by kernel_rfl
theorem zc86 : zchk Samg.prog 86 = true := by kernel_rfl
theorem zc90 : zchk Samg.prog 90 = true := by kernel_rfl
theorem zc126 : zchk Samg.prog 126 = true := by kernel_rfl
theorem zc148 : zchk Samg.prog 148 = true := by kernel_rfl
theorem zc150 : zchk Samg.prog 150 = true := by kernel_rfl
theorem zc153 : zchk Samg.prog 153 = true := by kernel_rfl
theorem zc172 : zchk Samg.prog 172 = true := by kernel_rfl
theorem zc178 : zchk Samg.prog 178 = true := by kernel_rfl
theorem zc183 : zchk Samg.prog 183 = true := by kernel_rfl
theorem zc206 : zchk Samg.prog 206 = true := by kernel_rfl
theorem zc243 : zchk Samg.prog 243 = true := by kernel_rfl
theorem by90 : bytesT Samg.prog 90 112 := by unfold bytesT; kernel_rfl
theorem by126 : bytesT Samg.prog 126 72 := by unfold bytesT; kernel_rfl
theorem by148 : bytesT Samg.prog 148 96 := by unfold bytesT; kernel_rfl
theorem by153 : bytesT Samg.prog 153 112 := by unfold bytesT; kernel_rfl
theorem by178 : bytesT Samg.prog 178 80 := by unfold bytesT; kernel_rfl
theorem by172 : bytesT Samg.prog 172 72 := by unfold bytesT; kernel_rfl
theorem by21 : bytesT Samg.prog 21 4 := by unfold bytesT; kernel_rfl
theorem by150 : bytesT Samg.prog 150 64 := by unfold bytesT; kernel_rfl
theorem by87 : bytesT Samg.prog 87 32 := by unfold bytesT; kernel_rfl
theorem by45 : bytesT Samg.prog 45 32 := by unfold bytesT; kernel_rfl
theorem by183 : bytesT Samg.prog 183 48 := by unfold bytesT; kernel_rfl
theorem by48 : bytesT Samg.prog 48 56 := by unfold bytesT; kernel_rfl
theorem num24 : numT Samg.prog 24 20 5 .u8 := ⟨⟨Samg.underlying24, by kernel_rfl⟩, Samg.underlying5, by kernel_rfl⟩
theorem num45 : numT Samg.prog 45 4 27 .u64 := ⟨⟨Samg.underlying45, by kernel_rfl⟩, Samg.underlying27, by kernel_rfl⟩
theorem num87 : numT Samg.prog 87 32 5 .u8 := ⟨⟨Samg.underlying87, by kernel_rfl⟩, Samg.underlying5, by kernel_rfl⟩
theorem num30 : numT Samg.prog 30 32 5 .u8 := ⟨⟨Samg.underlying30, by kernel_rfl⟩, Samg.underlying5, by kernel_rfl⟩
end Go.Proofs.Ygcsam

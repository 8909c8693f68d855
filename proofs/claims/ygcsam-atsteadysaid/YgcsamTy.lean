/-
  FACTS ON THE PROGRAM's TYPES AND FUNCTIONS, each a closed look into its tables. Laid by a small program of this seat.
-/
import Derived.Test.YgcsamRule
import Derived.Test.YgcsamProg
namespace Go.Proofs.Ygcsam
theorem mixed : Samg.prog.follows .mixedOrders = true := by kernel_rfl
theorem fd38_0 : fldT Samg.prog 38 0 0 1 := by unfold fldT; rw [show Samg.prog.underlying 38 = _ from Samg.underlying38]; exact ⟨rfl, by kernel_rfl⟩
theorem fd38_1 : fldT Samg.prog 38 1 1 1 := by unfold fldT; rw [show Samg.prog.underlying 38 = _ from Samg.underlying38]; exact ⟨rfl, by kernel_rfl⟩
theorem fd38_2 : fldT Samg.prog 38 2 2 1 := by unfold fldT; rw [show Samg.prog.underlying 38 = _ from Samg.underlying38]; exact ⟨rfl, by kernel_rfl⟩
theorem fd38_3 : fldT Samg.prog 38 3 3 32 := by unfold fldT; rw [show Samg.prog.underlying 38 = _ from Samg.underlying38]; exact ⟨rfl, by kernel_rfl⟩
theorem fd38_4 : fldT Samg.prog 38 4 35 1 := by unfold fldT; rw [show Samg.prog.underlying 38 = _ from Samg.underlying38]; exact ⟨rfl, by kernel_rfl⟩
theorem fd48_0 : fldT Samg.prog 48 0 0 4 := by unfold fldT; rw [show Samg.prog.underlying 48 = _ from Samg.underlying48]; exact ⟨rfl, by kernel_rfl⟩
theorem fd48_1 : fldT Samg.prog 48 1 4 1 := by unfold fldT; rw [show Samg.prog.underlying 48 = _ from Samg.underlying48]; exact ⟨rfl, by kernel_rfl⟩
theorem fd48_2 : fldT Samg.prog 48 2 5 1 := by unfold fldT; rw [show Samg.prog.underlying 48 = _ from Samg.underlying48]; exact ⟨rfl, by kernel_rfl⟩
theorem fd48_3 : fldT Samg.prog 48 3 6 1 := by unfold fldT; rw [show Samg.prog.underlying 48 = _ from Samg.underlying48]; exact ⟨rfl, by kernel_rfl⟩
theorem fd51_0 : fldT Samg.prog 51 0 0 1 := by unfold fldT; rw [show Samg.prog.underlying 51 = _ from Samg.underlying51]; exact ⟨rfl, by kernel_rfl⟩
theorem fd51_1 : fldT Samg.prog 51 1 1 4 := by unfold fldT; rw [show Samg.prog.underlying 51 = _ from Samg.underlying51]; exact ⟨rfl, by kernel_rfl⟩
theorem fd51_2 : fldT Samg.prog 51 2 5 4 := by unfold fldT; rw [show Samg.prog.underlying 51 = _ from Samg.underlying51]; exact ⟨rfl, by kernel_rfl⟩
theorem fd51_3 : fldT Samg.prog 51 3 9 1 := by unfold fldT; rw [show Samg.prog.underlying 51 = _ from Samg.underlying51]; exact ⟨rfl, by kernel_rfl⟩
theorem fd51_4 : fldT Samg.prog 51 4 10 1 := by unfold fldT; rw [show Samg.prog.underlying 51 = _ from Samg.underlying51]; exact ⟨rfl, by kernel_rfl⟩
theorem fd51_5 : fldT Samg.prog 51 5 11 1 := by unfold fldT; rw [show Samg.prog.underlying 51 = _ from Samg.underlying51]; exact ⟨rfl, by kernel_rfl⟩
theorem fd51_6 : fldT Samg.prog 51 6 12 1 := by unfold fldT; rw [show Samg.prog.underlying 51 = _ from Samg.underlying51]; exact ⟨rfl, by kernel_rfl⟩
theorem fd51_7 : fldT Samg.prog 51 7 13 7 := by unfold fldT; rw [show Samg.prog.underlying 51 = _ from Samg.underlying51]; exact ⟨rfl, by kernel_rfl⟩
theorem fd51_8 : fldT Samg.prog 51 8 20 1 := by unfold fldT; rw [show Samg.prog.underlying 51 = _ from Samg.underlying51]; exact ⟨rfl, by kernel_rfl⟩
theorem fd51_9 : fldT Samg.prog 51 9 21 4 := by unfold fldT; rw [show Samg.prog.underlying 51 = _ from Samg.underlying51]; exact ⟨rfl, by kernel_rfl⟩
theorem fd55_0 : fldT Samg.prog 55 0 0 1 := by unfold fldT; rw [show Samg.prog.underlying 55 = _ from Samg.underlying55]; exact ⟨rfl, by kernel_rfl⟩
theorem fd55_1 : fldT Samg.prog 55 1 1 20 := by unfold fldT; rw [show Samg.prog.underlying 55 = _ from Samg.underlying55]; exact ⟨rfl, by kernel_rfl⟩
theorem fd55_2 : fldT Samg.prog 55 2 21 32 := by unfold fldT; rw [show Samg.prog.underlying 55 = _ from Samg.underlying55]; exact ⟨rfl, by kernel_rfl⟩
theorem fd55_3 : fldT Samg.prog 55 3 53 32 := by unfold fldT; rw [show Samg.prog.underlying 55 = _ from Samg.underlying55]; exact ⟨rfl, by kernel_rfl⟩
theorem fd55_4 : fldT Samg.prog 55 4 85 1 := by unfold fldT; rw [show Samg.prog.underlying 55 = _ from Samg.underlying55]; exact ⟨rfl, by kernel_rfl⟩
theorem fd55_5 : fldT Samg.prog 55 5 86 1 := by unfold fldT; rw [show Samg.prog.underlying 55 = _ from Samg.underlying55]; exact ⟨rfl, by kernel_rfl⟩
theorem fd55_6 : fldT Samg.prog 55 6 87 1 := by unfold fldT; rw [show Samg.prog.underlying 55 = _ from Samg.underlying55]; exact ⟨rfl, by kernel_rfl⟩
theorem fd55_7 : fldT Samg.prog 55 7 88 1 := by unfold fldT; rw [show Samg.prog.underlying 55 = _ from Samg.underlying55]; exact ⟨rfl, by kernel_rfl⟩
theorem fd86_0 : fldT Samg.prog 86 0 0 1 := by unfold fldT; rw [show Samg.prog.underlying 86 = _ from Samg.underlying86]; exact ⟨rfl, by kernel_rfl⟩
theorem fd86_1 : fldT Samg.prog 86 1 1 1 := by unfold fldT; rw [show Samg.prog.underlying 86 = _ from Samg.underlying86]; exact ⟨rfl, by kernel_rfl⟩
theorem fd86_2 : fldT Samg.prog 86 2 2 4096 := by unfold fldT; rw [show Samg.prog.underlying 86 = _ from Samg.underlying86]; exact ⟨rfl, by kernel_rfl⟩
theorem fd86_3 : fldT Samg.prog 86 3 4098 4096 := by unfold fldT; rw [show Samg.prog.underlying 86 = _ from Samg.underlying86]; exact ⟨rfl, by kernel_rfl⟩
theorem fd86_4 : fldT Samg.prog 86 4 8194 1 := by unfold fldT; rw [show Samg.prog.underlying 86 = _ from Samg.underlying86]; exact ⟨rfl, by kernel_rfl⟩
theorem fd86_5 : fldT Samg.prog 86 5 8195 16384 := by unfold fldT; rw [show Samg.prog.underlying 86 = _ from Samg.underlying86]; exact ⟨rfl, by kernel_rfl⟩
theorem fd86_6 : fldT Samg.prog 86 6 24579 1 := by unfold fldT; rw [show Samg.prog.underlying 86 = _ from Samg.underlying86]; exact ⟨rfl, by kernel_rfl⟩
theorem fd86_7 : fldT Samg.prog 86 7 24580 1 := by unfold fldT; rw [show Samg.prog.underlying 86 = _ from Samg.underlying86]; exact ⟨rfl, by kernel_rfl⟩
theorem fd86_8 : fldT Samg.prog 86 8 24581 1 := by unfold fldT; rw [show Samg.prog.underlying 86 = _ from Samg.underlying86]; exact ⟨rfl, by kernel_rfl⟩
theorem fd86_9 : fldT Samg.prog 86 9 24582 1 := by unfold fldT; rw [show Samg.prog.underlying 86 = _ from Samg.underlying86]; exact ⟨rfl, by kernel_rfl⟩
theorem fd86_10 : fldT Samg.prog 86 10 24583 1 := by unfold fldT; rw [show Samg.prog.underlying 86 = _ from Samg.underlying86]; exact ⟨rfl, by kernel_rfl⟩
theorem fd90_0 : fldT Samg.prog 90 0 0 20 := by unfold fldT; rw [show Samg.prog.underlying 90 = _ from Samg.underlying90]; exact ⟨rfl, by kernel_rfl⟩
theorem fd90_1 : fldT Samg.prog 90 1 20 1 := by unfold fldT; rw [show Samg.prog.underlying 90 = _ from Samg.underlying90]; exact ⟨rfl, by kernel_rfl⟩
theorem fd90_2 : fldT Samg.prog 90 2 21 32 := by unfold fldT; rw [show Samg.prog.underlying 90 = _ from Samg.underlying90]; exact ⟨rfl, by kernel_rfl⟩
theorem fd90_3 : fldT Samg.prog 90 3 53 1 := by unfold fldT; rw [show Samg.prog.underlying 90 = _ from Samg.underlying90]; exact ⟨rfl, by kernel_rfl⟩
theorem fd90_4 : fldT Samg.prog 90 4 54 1 := by unfold fldT; rw [show Samg.prog.underlying 90 = _ from Samg.underlying90]; exact ⟨rfl, by kernel_rfl⟩
theorem fd126_0 : fldT Samg.prog 126 0 0 20 := by unfold fldT; rw [show Samg.prog.underlying 126 = _ from Samg.underlying126]; exact ⟨rfl, by kernel_rfl⟩
theorem fd126_1 : fldT Samg.prog 126 1 20 1 := by unfold fldT; rw [show Samg.prog.underlying 126 = _ from Samg.underlying126]; exact ⟨rfl, by kernel_rfl⟩
theorem fd126_2 : fldT Samg.prog 126 2 21 1 := by unfold fldT; rw [show Samg.prog.underlying 126 = _ from Samg.underlying126]; exact ⟨rfl, by kernel_rfl⟩
theorem fd148_0 : fldT Samg.prog 148 0 0 20 := by unfold fldT; rw [show Samg.prog.underlying 148 = _ from Samg.underlying148]; exact ⟨rfl, by kernel_rfl⟩
theorem fd148_1 : fldT Samg.prog 148 1 20 1 := by unfold fldT; rw [show Samg.prog.underlying 148 = _ from Samg.underlying148]; exact ⟨rfl, by kernel_rfl⟩
theorem fd148_2 : fldT Samg.prog 148 2 21 4 := by unfold fldT; rw [show Samg.prog.underlying 148 = _ from Samg.underlying148]; exact ⟨rfl, by kernel_rfl⟩
theorem fd148_3 : fldT Samg.prog 148 3 25 1 := by unfold fldT; rw [show Samg.prog.underlying 148 = _ from Samg.underlying148]; exact ⟨rfl, by kernel_rfl⟩
theorem fd148_4 : fldT Samg.prog 148 4 26 1 := by unfold fldT; rw [show Samg.prog.underlying 148 = _ from Samg.underlying148]; exact ⟨rfl, by kernel_rfl⟩
theorem fd148_5 : fldT Samg.prog 148 5 27 1 := by unfold fldT; rw [show Samg.prog.underlying 148 = _ from Samg.underlying148]; exact ⟨rfl, by kernel_rfl⟩
theorem fd148_6 : fldT Samg.prog 148 6 28 1 := by unfold fldT; rw [show Samg.prog.underlying 148 = _ from Samg.underlying148]; exact ⟨rfl, by kernel_rfl⟩
theorem fd150_0 : fldT Samg.prog 150 0 0 32 := by unfold fldT; rw [show Samg.prog.underlying 150 = _ from Samg.underlying150]; exact ⟨rfl, by kernel_rfl⟩
theorem fd150_1 : fldT Samg.prog 150 1 32 32 := by unfold fldT; rw [show Samg.prog.underlying 150 = _ from Samg.underlying150]; exact ⟨rfl, by kernel_rfl⟩
theorem fd153_0 : fldT Samg.prog 153 0 0 1 := by unfold fldT; rw [show Samg.prog.underlying 153 = _ from Samg.underlying153]; exact ⟨rfl, by kernel_rfl⟩
theorem fd153_1 : fldT Samg.prog 153 1 1 4 := by unfold fldT; rw [show Samg.prog.underlying 153 = _ from Samg.underlying153]; exact ⟨rfl, by kernel_rfl⟩
theorem fd153_2 : fldT Samg.prog 153 2 5 4 := by unfold fldT; rw [show Samg.prog.underlying 153 = _ from Samg.underlying153]; exact ⟨rfl, by kernel_rfl⟩
theorem fd153_3 : fldT Samg.prog 153 3 9 4 := by unfold fldT; rw [show Samg.prog.underlying 153 = _ from Samg.underlying153]; exact ⟨rfl, by kernel_rfl⟩
theorem fd153_4 : fldT Samg.prog 153 4 13 1 := by unfold fldT; rw [show Samg.prog.underlying 153 = _ from Samg.underlying153]; exact ⟨rfl, by kernel_rfl⟩
theorem fd158_0 : fldT Samg.prog 158 0 0 1 := by unfold fldT; rw [show Samg.prog.underlying 158 = _ from Samg.underlying158]; exact ⟨rfl, by kernel_rfl⟩
theorem fd158_1 : fldT Samg.prog 158 1 1 1 := by unfold fldT; rw [show Samg.prog.underlying 158 = _ from Samg.underlying158]; exact ⟨rfl, by kernel_rfl⟩
theorem fd161_0 : fldT Samg.prog 161 0 0 5 := by unfold fldT; rw [show Samg.prog.underlying 161 = _ from Samg.underlying161]; exact ⟨rfl, by kernel_rfl⟩
theorem fd172_0 : fldT Samg.prog 172 0 0 1 := by unfold fldT; rw [show Samg.prog.underlying 172 = _ from Samg.underlying172]; exact ⟨rfl, by kernel_rfl⟩
theorem fd172_1 : fldT Samg.prog 172 1 1 4 := by unfold fldT; rw [show Samg.prog.underlying 172 = _ from Samg.underlying172]; exact ⟨rfl, by kernel_rfl⟩
theorem fd172_2 : fldT Samg.prog 172 2 5 4 := by unfold fldT; rw [show Samg.prog.underlying 172 = _ from Samg.underlying172]; exact ⟨rfl, by kernel_rfl⟩
theorem fd178_0 : fldT Samg.prog 178 0 0 1 := by unfold fldT; rw [show Samg.prog.underlying 178 = _ from Samg.underlying178]; exact ⟨rfl, by kernel_rfl⟩
theorem fd178_1 : fldT Samg.prog 178 1 1 1 := by unfold fldT; rw [show Samg.prog.underlying 178 = _ from Samg.underlying178]; exact ⟨rfl, by kernel_rfl⟩
theorem fd178_2 : fldT Samg.prog 178 2 2 1 := by unfold fldT; rw [show Samg.prog.underlying 178 = _ from Samg.underlying178]; exact ⟨rfl, by kernel_rfl⟩
theorem fd178_3 : fldT Samg.prog 178 3 3 4 := by unfold fldT; rw [show Samg.prog.underlying 178 = _ from Samg.underlying178]; exact ⟨rfl, by kernel_rfl⟩
theorem fd178_4 : fldT Samg.prog 178 4 7 1 := by unfold fldT; rw [show Samg.prog.underlying 178 = _ from Samg.underlying178]; exact ⟨rfl, by kernel_rfl⟩
theorem fd178_5 : fldT Samg.prog 178 5 8 1 := by unfold fldT; rw [show Samg.prog.underlying 178 = _ from Samg.underlying178]; exact ⟨rfl, by kernel_rfl⟩
theorem fd183_0 : fldT Samg.prog 183 0 0 1 := by unfold fldT; rw [show Samg.prog.underlying 183 = _ from Samg.underlying183]; exact ⟨rfl, by kernel_rfl⟩
theorem fd183_1 : fldT Samg.prog 183 1 1 4 := by unfold fldT; rw [show Samg.prog.underlying 183 = _ from Samg.underlying183]; exact ⟨rfl, by kernel_rfl⟩
theorem fd183_2 : fldT Samg.prog 183 2 5 1 := by unfold fldT; rw [show Samg.prog.underlying 183 = _ from Samg.underlying183]; exact ⟨rfl, by kernel_rfl⟩
theorem ar24 : arrT Samg.prog 24 20 5 1 := ⟨Samg.underlying24, by kernel_rfl⟩
theorem ar30 : arrT Samg.prog 30 32 5 1 := ⟨Samg.underlying30, by kernel_rfl⟩
theorem sl31 : slcT Samg.prog 31 5 1 := ⟨Samg.underlying31, by kernel_rfl⟩
theorem sl35 : slcT Samg.prog 35 90 55 := ⟨Samg.underlying35, by kernel_rfl⟩
theorem sl36 : slcT Samg.prog 36 38 36 := ⟨Samg.underlying36, by kernel_rfl⟩
theorem ar45 : arrT Samg.prog 45 4 27 1 := ⟨Samg.underlying45, by kernel_rfl⟩
theorem sl46 : slcT Samg.prog 46 126 22 := ⟨Samg.underlying46, by kernel_rfl⟩
theorem sl53 : slcT Samg.prog 53 30 32 := ⟨Samg.underlying53, by kernel_rfl⟩
theorem sl57 : slcT Samg.prog 57 48 7 := ⟨Samg.underlying57, by kernel_rfl⟩
theorem ar61 : arrT Samg.prog 61 136 5 1 := ⟨Samg.underlying61, by kernel_rfl⟩
theorem ar62 : arrT Samg.prog 62 64 5 1 := ⟨Samg.underlying62, by kernel_rfl⟩
theorem ar63 : arrT Samg.prog 63 17 27 1 := ⟨Samg.underlying63, by kernel_rfl⟩
theorem ar66 : arrT Samg.prog 66 8 27 1 := ⟨Samg.underlying66, by kernel_rfl⟩
theorem sl78 : slcT Samg.prog 78 148 29 := ⟨Samg.underlying78, by kernel_rfl⟩
theorem sl79 : slcT Samg.prog 79 153 14 := ⟨Samg.underlying79, by kernel_rfl⟩
theorem ar80 : arrT Samg.prog 80 4096 21 1 := ⟨Samg.underlying80, by kernel_rfl⟩
theorem sl81 : slcT Samg.prog 81 178 9 := ⟨Samg.underlying81, by kernel_rfl⟩
theorem ar82 : arrT Samg.prog 82 16384 21 1 := ⟨Samg.underlying82, by kernel_rfl⟩
theorem sl83 : slcT Samg.prog 83 172 9 := ⟨Samg.underlying83, by kernel_rfl⟩
theorem sl84 : slcT Samg.prog 84 21 1 := ⟨Samg.underlying84, by kernel_rfl⟩
theorem ar87 : arrT Samg.prog 87 32 5 1 := ⟨Samg.underlying87, by kernel_rfl⟩
theorem sl88 : slcT Samg.prog 88 150 64 := ⟨Samg.underlying88, by kernel_rfl⟩
theorem sl124 : slcT Samg.prog 124 87 32 := ⟨Samg.underlying124, by kernel_rfl⟩
theorem sl133 : slcT Samg.prog 133 27 1 := ⟨Samg.underlying133, by kernel_rfl⟩
theorem sl134 : slcT Samg.prog 134 5 1 := ⟨Samg.underlying134, by kernel_rfl⟩
theorem sl141 : slcT Samg.prog 141 4 1 := ⟨Samg.underlying141, by kernel_rfl⟩
theorem ar142 : arrT Samg.prog 142 1600 4 1 := ⟨Samg.underlying142, by kernel_rfl⟩
theorem sl154 : slcT Samg.prog 154 162 29 := ⟨Samg.underlying154, by kernel_rfl⟩
theorem sl155 : slcT Samg.prog 155 164 33 := ⟨Samg.underlying155, by kernel_rfl⟩
theorem sl175 : slcT Samg.prog 175 45 4 := ⟨Samg.underlying175, by kernel_rfl⟩
theorem sl181 : slcT Samg.prog 181 183 6 := ⟨Samg.underlying181, by kernel_rfl⟩
theorem ar197 : arrT Samg.prog 197 64 4 1 := ⟨Samg.underlying197, by kernel_rfl⟩
theorem ar198 : arrT Samg.prog 198 5 197 64 := ⟨Samg.underlying198, by kernel_rfl⟩
theorem ar200 : arrT Samg.prog 200 5 198 320 := ⟨Samg.underlying200, by kernel_rfl⟩
theorem ar206 : arrT Samg.prog 206 8 5 1 := ⟨Samg.underlying206, by kernel_rfl⟩
theorem ar234 : arrT Samg.prog 234 8 4 1 := ⟨Samg.underlying234, by kernel_rfl⟩
theorem ar243 : arrT Samg.prog 243 2560 4 1 := ⟨Samg.underlying243, by kernel_rfl⟩
theorem on4 : oneT Samg.prog 4 := ⟨by kernel_rfl, by kernel_rfl⟩
theorem on5 : oneT Samg.prog 5 := ⟨by kernel_rfl, by kernel_rfl⟩
theorem on21 : oneT Samg.prog 21 := ⟨by kernel_rfl, by kernel_rfl⟩
theorem ag24 : aggT Samg.prog 24 20 := ⟨by kernel_rfl, by kernel_rfl⟩
theorem on27 : oneT Samg.prog 27 := ⟨by kernel_rfl, by kernel_rfl⟩
theorem ag30 : aggT Samg.prog 30 32 := ⟨by kernel_rfl, by kernel_rfl⟩
theorem on31 : oneT Samg.prog 31 := ⟨by kernel_rfl, by kernel_rfl⟩
theorem on35 : oneT Samg.prog 35 := ⟨by kernel_rfl, by kernel_rfl⟩
theorem ag38 : aggT Samg.prog 38 36 := ⟨by kernel_rfl, by kernel_rfl⟩
theorem ag45 : aggT Samg.prog 45 4 := ⟨by kernel_rfl, by kernel_rfl⟩
theorem on46 : oneT Samg.prog 46 := ⟨by kernel_rfl, by kernel_rfl⟩
theorem ag48 : aggT Samg.prog 48 7 := ⟨by kernel_rfl, by kernel_rfl⟩
theorem ag49 : aggT Samg.prog 49 4 := ⟨by kernel_rfl, by kernel_rfl⟩
theorem ag51 : aggT Samg.prog 51 25 := ⟨by kernel_rfl, by kernel_rfl⟩
theorem on53 : oneT Samg.prog 53 := ⟨by kernel_rfl, by kernel_rfl⟩
theorem ag55 : aggT Samg.prog 55 89 := ⟨by kernel_rfl, by kernel_rfl⟩
theorem ag61 : aggT Samg.prog 61 136 := ⟨by kernel_rfl, by kernel_rfl⟩
theorem ag62 : aggT Samg.prog 62 64 := ⟨by kernel_rfl, by kernel_rfl⟩
theorem ag63 : aggT Samg.prog 63 17 := ⟨by kernel_rfl, by kernel_rfl⟩
theorem ag66 : aggT Samg.prog 66 8 := ⟨by kernel_rfl, by kernel_rfl⟩
theorem on78 : oneT Samg.prog 78 := ⟨by kernel_rfl, by kernel_rfl⟩
theorem on79 : oneT Samg.prog 79 := ⟨by kernel_rfl, by kernel_rfl⟩
theorem on81 : oneT Samg.prog 81 := ⟨by kernel_rfl, by kernel_rfl⟩
theorem on83 : oneT Samg.prog 83 := ⟨by kernel_rfl, by kernel_rfl⟩
theorem on84 : oneT Samg.prog 84 := ⟨by kernel_rfl, by kernel_rfl⟩
theorem ag86 : aggT Samg.prog 86 24584 := ⟨by kernel_rfl, by kernel_rfl⟩
theorem ag87 : aggT Samg.prog 87 32 := ⟨by kernel_rfl, by kernel_rfl⟩
theorem on88 : oneT Samg.prog 88 := ⟨by kernel_rfl, by kernel_rfl⟩
theorem ag90 : aggT Samg.prog 90 55 := ⟨by kernel_rfl, by kernel_rfl⟩
theorem on124 : oneT Samg.prog 124 := ⟨by kernel_rfl, by kernel_rfl⟩
theorem ag126 : aggT Samg.prog 126 22 := ⟨by kernel_rfl, by kernel_rfl⟩
theorem ag142 : aggT Samg.prog 142 1600 := ⟨by kernel_rfl, by kernel_rfl⟩
theorem ag148 : aggT Samg.prog 148 29 := ⟨by kernel_rfl, by kernel_rfl⟩
theorem ag150 : aggT Samg.prog 150 64 := ⟨by kernel_rfl, by kernel_rfl⟩
theorem ag153 : aggT Samg.prog 153 14 := ⟨by kernel_rfl, by kernel_rfl⟩
theorem on154 : oneT Samg.prog 154 := ⟨by kernel_rfl, by kernel_rfl⟩
theorem on155 : oneT Samg.prog 155 := ⟨by kernel_rfl, by kernel_rfl⟩
theorem ag161 : aggT Samg.prog 161 7 := ⟨by kernel_rfl, by kernel_rfl⟩
theorem ag162 : aggT Samg.prog 162 29 := ⟨by kernel_rfl, by kernel_rfl⟩
theorem ag164 : aggT Samg.prog 164 33 := ⟨by kernel_rfl, by kernel_rfl⟩
theorem ag172 : aggT Samg.prog 172 9 := ⟨by kernel_rfl, by kernel_rfl⟩
theorem ag178 : aggT Samg.prog 178 9 := ⟨by kernel_rfl, by kernel_rfl⟩
theorem ag183 : aggT Samg.prog 183 6 := ⟨by kernel_rfl, by kernel_rfl⟩
theorem ag197 : aggT Samg.prog 197 64 := ⟨by kernel_rfl, by kernel_rfl⟩
theorem ag198 : aggT Samg.prog 198 320 := ⟨by kernel_rfl, by kernel_rfl⟩
theorem ag200 : aggT Samg.prog 200 1600 := ⟨by kernel_rfl, by kernel_rfl⟩
theorem ag206 : aggT Samg.prog 206 8 := ⟨by kernel_rfl, by kernel_rfl⟩
theorem ag234 : aggT Samg.prog 234 8 := ⟨by kernel_rfl, by kernel_rfl⟩
theorem on238 : oneT Samg.prog 238 := ⟨by kernel_rfl, by kernel_rfl⟩
theorem ag243 : aggT Samg.prog 243 2560 := ⟨by kernel_rfl, by kernel_rfl⟩
theorem cl6 : callable Samg.prog 6 := ⟨_, Samg.func6, by kernel_rfl, by kernel_rfl⟩
theorem cl7 : callable Samg.prog 7 := ⟨_, Samg.func7, by kernel_rfl, by kernel_rfl⟩
theorem cl8 : callable Samg.prog 8 := ⟨_, Samg.func8, by kernel_rfl, by kernel_rfl⟩
theorem cl9 : callable Samg.prog 9 := ⟨_, Samg.func9, by kernel_rfl, by kernel_rfl⟩
theorem cl10 : callable Samg.prog 10 := ⟨_, Samg.func10, by kernel_rfl, by kernel_rfl⟩
theorem cl11 : callable Samg.prog 11 := ⟨_, Samg.func11, by kernel_rfl, by kernel_rfl⟩
theorem cl12 : callable Samg.prog 12 := ⟨_, Samg.func12, by kernel_rfl, by kernel_rfl⟩
theorem cl13 : callable Samg.prog 13 := ⟨_, Samg.func13, by kernel_rfl, by kernel_rfl⟩
theorem cl14 : callable Samg.prog 14 := ⟨_, Samg.func14, by kernel_rfl, by kernel_rfl⟩
theorem cl15 : callable Samg.prog 15 := ⟨_, Samg.func15, by kernel_rfl, by kernel_rfl⟩
theorem cl16 : callable Samg.prog 16 := ⟨_, Samg.func16, by kernel_rfl, by kernel_rfl⟩
theorem cl17 : callable Samg.prog 17 := ⟨_, Samg.func17, by kernel_rfl, by kernel_rfl⟩
theorem cl18 : callable Samg.prog 18 := ⟨_, Samg.func18, by kernel_rfl, by kernel_rfl⟩
theorem cl19 : callable Samg.prog 19 := ⟨_, Samg.func19, by kernel_rfl, by kernel_rfl⟩
theorem cl20 : callable Samg.prog 20 := ⟨_, Samg.func20, by kernel_rfl, by kernel_rfl⟩
theorem cl21 : callable Samg.prog 21 := ⟨_, Samg.func21, by kernel_rfl, by kernel_rfl⟩
theorem cl22 : callable Samg.prog 22 := ⟨_, Samg.func22, by kernel_rfl, by kernel_rfl⟩
theorem cl23 : callable Samg.prog 23 := ⟨_, Samg.func23, by kernel_rfl, by kernel_rfl⟩
theorem cl24 : callable Samg.prog 24 := ⟨_, Samg.func24, by kernel_rfl, by kernel_rfl⟩
theorem cl25 : callable Samg.prog 25 := ⟨_, Samg.func25, by kernel_rfl, by kernel_rfl⟩
theorem cl26 : callable Samg.prog 26 := ⟨_, Samg.func26, by kernel_rfl, by kernel_rfl⟩
theorem cl27 : callable Samg.prog 27 := ⟨_, Samg.func27, by kernel_rfl, by kernel_rfl⟩
theorem cl28 : callable Samg.prog 28 := ⟨_, Samg.func28, by kernel_rfl, by kernel_rfl⟩
theorem cl29 : callable Samg.prog 29 := ⟨_, Samg.func29, by kernel_rfl, by kernel_rfl⟩
theorem cl30 : callable Samg.prog 30 := ⟨_, Samg.func30, by kernel_rfl, by kernel_rfl⟩
theorem cl31 : callable Samg.prog 31 := ⟨_, Samg.func31, by kernel_rfl, by kernel_rfl⟩
theorem cl32 : callable Samg.prog 32 := ⟨_, Samg.func32, by kernel_rfl, by kernel_rfl⟩
theorem cl33 : callable Samg.prog 33 := ⟨_, Samg.func33, by kernel_rfl, by kernel_rfl⟩
theorem cl34 : callable Samg.prog 34 := ⟨_, Samg.func34, by kernel_rfl, by kernel_rfl⟩
theorem cl35 : callable Samg.prog 35 := ⟨_, Samg.func35, by kernel_rfl, by kernel_rfl⟩
theorem cl36 : callable Samg.prog 36 := ⟨_, Samg.func36, by kernel_rfl, by kernel_rfl⟩
theorem cl37 : callable Samg.prog 37 := ⟨_, Samg.func37, by kernel_rfl, by kernel_rfl⟩
theorem cl38 : callable Samg.prog 38 := ⟨_, Samg.func38, by kernel_rfl, by kernel_rfl⟩
theorem cl39 : callable Samg.prog 39 := ⟨_, Samg.func39, by kernel_rfl, by kernel_rfl⟩
theorem cl40 : callable Samg.prog 40 := ⟨_, Samg.func40, by kernel_rfl, by kernel_rfl⟩
theorem cl41 : callable Samg.prog 41 := ⟨_, Samg.func41, by kernel_rfl, by kernel_rfl⟩
theorem cl42 : callable Samg.prog 42 := ⟨_, Samg.func42, by kernel_rfl, by kernel_rfl⟩
theorem cl43 : callable Samg.prog 43 := ⟨_, Samg.func43, by kernel_rfl, by kernel_rfl⟩
theorem cl44 : callable Samg.prog 44 := ⟨_, Samg.func44, by kernel_rfl, by kernel_rfl⟩
theorem cl45 : callable Samg.prog 45 := ⟨_, Samg.func45, by kernel_rfl, by kernel_rfl⟩
theorem cl46 : callable Samg.prog 46 := ⟨_, Samg.func46, by kernel_rfl, by kernel_rfl⟩
theorem cl47 : callable Samg.prog 47 := ⟨_, Samg.func47, by kernel_rfl, by kernel_rfl⟩
theorem cl48 : callable Samg.prog 48 := ⟨_, Samg.func48, by kernel_rfl, by kernel_rfl⟩
theorem cl49 : callable Samg.prog 49 := ⟨_, Samg.func49, by kernel_rfl, by kernel_rfl⟩
theorem cl50 : callable Samg.prog 50 := ⟨_, Samg.func50, by kernel_rfl, by kernel_rfl⟩
theorem cl51 : callable Samg.prog 51 := ⟨_, Samg.func51, by kernel_rfl, by kernel_rfl⟩
theorem cl52 : callable Samg.prog 52 := ⟨_, Samg.func52, by kernel_rfl, by kernel_rfl⟩
theorem cl53 : callable Samg.prog 53 := ⟨_, Samg.func53, by kernel_rfl, by kernel_rfl⟩
theorem cl54 : callable Samg.prog 54 := ⟨_, Samg.func54, by kernel_rfl, by kernel_rfl⟩
theorem cl55 : callable Samg.prog 55 := ⟨_, Samg.func55, by kernel_rfl, by kernel_rfl⟩
theorem cl56 : callable Samg.prog 56 := ⟨_, Samg.func56, by kernel_rfl, by kernel_rfl⟩
theorem cl57 : callable Samg.prog 57 := ⟨_, Samg.func57, by kernel_rfl, by kernel_rfl⟩
theorem cl58 : callable Samg.prog 58 := ⟨_, Samg.func58, by kernel_rfl, by kernel_rfl⟩
theorem cl59 : callable Samg.prog 59 := ⟨_, Samg.func59, by kernel_rfl, by kernel_rfl⟩
theorem cl60 : callable Samg.prog 60 := ⟨_, Samg.func60, by kernel_rfl, by kernel_rfl⟩
theorem cl61 : callable Samg.prog 61 := ⟨_, Samg.func61, by kernel_rfl, by kernel_rfl⟩
theorem cl62 : callable Samg.prog 62 := ⟨_, Samg.func62, by kernel_rfl, by kernel_rfl⟩
theorem cl63 : callable Samg.prog 63 := ⟨_, Samg.func63, by kernel_rfl, by kernel_rfl⟩
theorem cl64 : callable Samg.prog 64 := ⟨_, Samg.func64, by kernel_rfl, by kernel_rfl⟩
theorem cl65 : callable Samg.prog 65 := ⟨_, Samg.func65, by kernel_rfl, by kernel_rfl⟩
theorem cl66 : callable Samg.prog 66 := ⟨_, Samg.func66, by kernel_rfl, by kernel_rfl⟩
theorem cl67 : callable Samg.prog 67 := ⟨_, Samg.func67, by kernel_rfl, by kernel_rfl⟩
theorem cl68 : callable Samg.prog 68 := ⟨_, Samg.func68, by kernel_rfl, by kernel_rfl⟩
theorem cl69 : callable Samg.prog 69 := ⟨_, Samg.func69, by kernel_rfl, by kernel_rfl⟩
theorem cl70 : callable Samg.prog 70 := ⟨_, Samg.func70, by kernel_rfl, by kernel_rfl⟩
theorem cl71 : callable Samg.prog 71 := ⟨_, Samg.func71, by kernel_rfl, by kernel_rfl⟩
theorem cl72 : callable Samg.prog 72 := ⟨_, Samg.func72, by kernel_rfl, by kernel_rfl⟩
theorem cl73 : callable Samg.prog 73 := ⟨_, Samg.func73, by kernel_rfl, by kernel_rfl⟩
theorem cl74 : callable Samg.prog 74 := ⟨_, Samg.func74, by kernel_rfl, by kernel_rfl⟩
theorem cl75 : callable Samg.prog 75 := ⟨_, Samg.func75, by kernel_rfl, by kernel_rfl⟩
theorem cl76 : callable Samg.prog 76 := ⟨_, Samg.func76, by kernel_rfl, by kernel_rfl⟩
theorem cl77 : callable Samg.prog 77 := ⟨_, Samg.func77, by kernel_rfl, by kernel_rfl⟩
theorem cl78 : callable Samg.prog 78 := ⟨_, Samg.func78, by kernel_rfl, by kernel_rfl⟩
theorem cl79 : callable Samg.prog 79 := ⟨_, Samg.func79, by kernel_rfl, by kernel_rfl⟩
theorem cl80 : callable Samg.prog 80 := ⟨_, Samg.func80, by kernel_rfl, by kernel_rfl⟩
theorem cl81 : callable Samg.prog 81 := ⟨_, Samg.func81, by kernel_rfl, by kernel_rfl⟩
theorem cl82 : callable Samg.prog 82 := ⟨_, Samg.func82, by kernel_rfl, by kernel_rfl⟩
theorem cl83 : callable Samg.prog 83 := ⟨_, Samg.func83, by kernel_rfl, by kernel_rfl⟩
theorem cl84 : callable Samg.prog 84 := ⟨_, Samg.func84, by kernel_rfl, by kernel_rfl⟩
theorem cl85 : callable Samg.prog 85 := ⟨_, Samg.func85, by kernel_rfl, by kernel_rfl⟩
theorem cl86 : callable Samg.prog 86 := ⟨_, Samg.func86, by kernel_rfl, by kernel_rfl⟩
theorem cl87 : callable Samg.prog 87 := ⟨_, Samg.func87, by kernel_rfl, by kernel_rfl⟩
theorem cl88 : callable Samg.prog 88 := ⟨_, Samg.func88, by kernel_rfl, by kernel_rfl⟩
theorem cl89 : callable Samg.prog 89 := ⟨_, Samg.func89, by kernel_rfl, by kernel_rfl⟩
theorem cl90 : callable Samg.prog 90 := ⟨_, Samg.func90, by kernel_rfl, by kernel_rfl⟩
theorem cl91 : callable Samg.prog 91 := ⟨_, Samg.func91, by kernel_rfl, by kernel_rfl⟩
theorem cl92 : callable Samg.prog 92 := ⟨_, Samg.func92, by kernel_rfl, by kernel_rfl⟩
theorem cl93 : callable Samg.prog 93 := ⟨_, Samg.func93, by kernel_rfl, by kernel_rfl⟩
theorem cl94 : callable Samg.prog 94 := ⟨_, Samg.func94, by kernel_rfl, by kernel_rfl⟩
theorem cl95 : callable Samg.prog 95 := ⟨_, Samg.func95, by kernel_rfl, by kernel_rfl⟩
theorem cl96 : callable Samg.prog 96 := ⟨_, Samg.func96, by kernel_rfl, by kernel_rfl⟩
theorem cl97 : callable Samg.prog 97 := ⟨_, Samg.func97, by kernel_rfl, by kernel_rfl⟩
theorem cl98 : callable Samg.prog 98 := ⟨_, Samg.func98, by kernel_rfl, by kernel_rfl⟩
theorem cl99 : callable Samg.prog 99 := ⟨_, Samg.func99, by kernel_rfl, by kernel_rfl⟩
theorem cl100 : callable Samg.prog 100 := ⟨_, Samg.func100, by kernel_rfl, by kernel_rfl⟩
theorem cl101 : callable Samg.prog 101 := ⟨_, Samg.func101, by kernel_rfl, by kernel_rfl⟩
theorem cl102 : callable Samg.prog 102 := ⟨_, Samg.func102, by kernel_rfl, by kernel_rfl⟩
theorem cl103 : callable Samg.prog 103 := ⟨_, Samg.func103, by kernel_rfl, by kernel_rfl⟩
theorem cl104 : callable Samg.prog 104 := ⟨_, Samg.func104, by kernel_rfl, by kernel_rfl⟩
theorem cl105 : callable Samg.prog 105 := ⟨_, Samg.func105, by kernel_rfl, by kernel_rfl⟩
theorem cl106 : callable Samg.prog 106 := ⟨_, Samg.func106, by kernel_rfl, by kernel_rfl⟩
theorem cl107 : callable Samg.prog 107 := ⟨_, Samg.func107, by kernel_rfl, by kernel_rfl⟩
theorem cl108 : callable Samg.prog 108 := ⟨_, Samg.func108, by kernel_rfl, by kernel_rfl⟩
theorem cl109 : callable Samg.prog 109 := ⟨_, Samg.func109, by kernel_rfl, by kernel_rfl⟩
theorem cl110 : callable Samg.prog 110 := ⟨_, Samg.func110, by kernel_rfl, by kernel_rfl⟩
theorem cl111 : callable Samg.prog 111 := ⟨_, Samg.func111, by kernel_rfl, by kernel_rfl⟩
theorem cl112 : callable Samg.prog 112 := ⟨_, Samg.func112, by kernel_rfl, by kernel_rfl⟩
theorem cl113 : callable Samg.prog 113 := ⟨_, Samg.func113, by kernel_rfl, by kernel_rfl⟩
theorem cl114 : callable Samg.prog 114 := ⟨_, Samg.func114, by kernel_rfl, by kernel_rfl⟩
theorem cl115 : callable Samg.prog 115 := ⟨_, Samg.func115, by kernel_rfl, by kernel_rfl⟩
theorem cl116 : callable Samg.prog 116 := ⟨_, Samg.func116, by kernel_rfl, by kernel_rfl⟩
theorem cl117 : callable Samg.prog 117 := ⟨_, Samg.func117, by kernel_rfl, by kernel_rfl⟩
theorem cl118 : callable Samg.prog 118 := ⟨_, Samg.func118, by kernel_rfl, by kernel_rfl⟩
theorem cl119 : callable Samg.prog 119 := ⟨_, Samg.func119, by kernel_rfl, by kernel_rfl⟩
theorem cl120 : callable Samg.prog 120 := ⟨_, Samg.func120, by kernel_rfl, by kernel_rfl⟩
theorem cl121 : callable Samg.prog 121 := ⟨_, Samg.func121, by kernel_rfl, by kernel_rfl⟩
theorem cl122 : callable Samg.prog 122 := ⟨_, Samg.func122, by kernel_rfl, by kernel_rfl⟩
theorem cl123 : callable Samg.prog 123 := ⟨_, Samg.func123, by kernel_rfl, by kernel_rfl⟩
theorem cl124 : callable Samg.prog 124 := ⟨_, Samg.func124, by kernel_rfl, by kernel_rfl⟩
theorem cl125 : callable Samg.prog 125 := ⟨_, Samg.func125, by kernel_rfl, by kernel_rfl⟩
theorem cl126 : callable Samg.prog 126 := ⟨_, Samg.func126, by kernel_rfl, by kernel_rfl⟩
theorem cl127 : callable Samg.prog 127 := ⟨_, Samg.func127, by kernel_rfl, by kernel_rfl⟩
theorem cl128 : callable Samg.prog 128 := ⟨_, Samg.func128, by kernel_rfl, by kernel_rfl⟩
theorem cl129 : callable Samg.prog 129 := ⟨_, Samg.func129, by kernel_rfl, by kernel_rfl⟩
theorem cl130 : callable Samg.prog 130 := ⟨_, Samg.func130, by kernel_rfl, by kernel_rfl⟩
theorem cl131 : callable Samg.prog 131 := ⟨_, Samg.func131, by kernel_rfl, by kernel_rfl⟩
theorem cl132 : callable Samg.prog 132 := ⟨_, Samg.func132, by kernel_rfl, by kernel_rfl⟩
theorem cl133 : callable Samg.prog 133 := ⟨_, Samg.func133, by kernel_rfl, by kernel_rfl⟩
theorem cl134 : callable Samg.prog 134 := ⟨_, Samg.func134, by kernel_rfl, by kernel_rfl⟩
theorem cl136 : callable Samg.prog 136 := ⟨_, Samg.func136, by kernel_rfl, by kernel_rfl⟩
theorem cl137 : callable Samg.prog 137 := ⟨_, Samg.func137, by kernel_rfl, by kernel_rfl⟩
theorem cl138 : callable Samg.prog 138 := ⟨_, Samg.func138, by kernel_rfl, by kernel_rfl⟩
theorem cl139 : callable Samg.prog 139 := ⟨_, Samg.func139, by kernel_rfl, by kernel_rfl⟩
theorem cl140 : callable Samg.prog 140 := ⟨_, Samg.func140, by kernel_rfl, by kernel_rfl⟩
theorem cl142 : callable Samg.prog 142 := ⟨_, Samg.func142, by kernel_rfl, by kernel_rfl⟩
theorem cl143 : callable Samg.prog 143 := ⟨_, Samg.func143, by kernel_rfl, by kernel_rfl⟩
theorem cl144 : callable Samg.prog 144 := ⟨_, Samg.func144, by kernel_rfl, by kernel_rfl⟩
theorem cl145 : callable Samg.prog 145 := ⟨_, Samg.func145, by kernel_rfl, by kernel_rfl⟩
theorem cl146 : callable Samg.prog 146 := ⟨_, Samg.func146, by kernel_rfl, by kernel_rfl⟩
theorem cl147 : callable Samg.prog 147 := ⟨_, Samg.func147, by kernel_rfl, by kernel_rfl⟩
theorem cl148 : callable Samg.prog 148 := ⟨_, Samg.func148, by kernel_rfl, by kernel_rfl⟩
theorem cl149 : callable Samg.prog 149 := ⟨_, Samg.func149, by kernel_rfl, by kernel_rfl⟩
theorem cl150 : callable Samg.prog 150 := ⟨_, Samg.func150, by kernel_rfl, by kernel_rfl⟩
theorem cl151 : callable Samg.prog 151 := ⟨_, Samg.func151, by kernel_rfl, by kernel_rfl⟩
theorem cl152 : callable Samg.prog 152 := ⟨_, Samg.func152, by kernel_rfl, by kernel_rfl⟩
theorem cl153 : callable Samg.prog 153 := ⟨_, Samg.func153, by kernel_rfl, by kernel_rfl⟩
end Go.Proofs.Ygcsam

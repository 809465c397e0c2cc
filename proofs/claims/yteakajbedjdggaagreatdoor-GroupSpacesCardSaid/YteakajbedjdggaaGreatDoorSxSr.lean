/- slices.Sorted(maps.Keys(m)), by the shelf's contracts. -/
import Derived.Test.YteakajbedjdggaaGreatDoorShf
import Derived.Test.YteakajbedjdggaaGreatDoorSxZ
namespace Go.Proofs.YteakajbedjdggaaGreatDoor
open Go.RowKit Go.Shelf Go.Maps

theorem sortsA (m : Nat) : AnyZI.SortsIn Tryz.prog Tryz.sortedA_ren Fence.wide m :=
  ⟨fun blk off cap ss W hH hblk hsz => callsIn_wide.2 (AnyM.slices_Sort_int Tryz.sortA blk off cap ss W hH hblk hsz),
   fun p cap W => callsIn_wide.2 (AnyM.slices_Sort_int_none Tryz.sortA p cap W)⟩
theorem srtCall : Go.Sx.SrtC Tryz.prog 179 244 3 := fun w bm b n D hbm hcell hown hn => by
  have hsz := hown.size_le
  have hseq : SeqGives Fence.wide 2 Tryz.prog 244 #[.pointer (some ⟨bm, 0, none⟩)] encZ (fun ss => ss.Perm (intKeys D)) (Maps.size D) w :=
    AnyZI.keys_gives (ρ := Tryz.keysA_ren) { Tryz.keysA with } Fence.wide _ trivial rfl (by omega) bm b n D w hbm hcell hown
  have cS := AnyZI.sorted_in Tryz.sortedA Fence.wide 5 trivial trivial trivial trivial rfl (by omega) (sortsA _) (enters_of Tryz.func243 (by kernel_rfl) rfl) 244 #[.pointer (some ⟨bm, 0, none⟩)] trivial (enters_of Tryz.func244 (by kernel_rfl) rfl) _ _ (by unfold maxLen; omega) (by omega) w hseq
  change CallsIn _ _ Tryz.prog 179 _ _ _ at cS
  exact (callsIn_wide (n := 5)).1 cS
end Go.Proofs.YteakajbedjdggaaGreatDoor

/- The contracts of slices.Sorted of maps.Keys at this program, in plain words; written by the programs of the kit (lay-iter, lay-plain). -/
import Derived.Shelf.SlIter.Nil
import Derived.Shelf.SortM.Plain
import Derived.Shelf.SortM.SortNone
import Derived.Ground.GgzProg
import Derived.Ground.SlgmProg
import Derived.Test.YtogdfkilhpkloaaGreatDoorProg
namespace Go.Proofs
open Go.Shelf
def Tryz.keys159_ren : Go.Shelf.Ren := ⟨fun | 7 => 159 | 10 => 222 | n => n, fun | 23 => 179 | 26 => 9 | 3 => 178 | 28 => 248 | 0 => 0 | 27 => 247 | 33 => 154 | 4 => 4 | n => n, fun | n => n⟩
theorem Tryz.keys159 : Go.Proofs.SlLaysZ.n7 Tryz.prog Tryz.keys159_ren := {
  mixed := by kernel_rfl
  f7 := ⟨Tryz.f159.name, by decide, Tryz.func159.trans (congrArg some (by kernel_rfl))⟩
  f10 := ⟨Tryz.f222.name, by decide, Tryz.func222.trans (congrArg some (by kernel_rfl))⟩
  t0 := Tryz.underlying0
  a0 := Tryz.isAgg0
  z0 := Tryz.sizeOf0
  v0 := Tryz.zeroValue0
  t4 := Tryz.underlying4
  a4 := Tryz.isAgg4
  z4 := Tryz.sizeOf4
  v4 := Tryz.zeroValue4
  t23 := Tryz.underlying179
  a23 := Tryz.isAgg179
  z23 := Tryz.sizeOf179
  v23 := Tryz.zeroValue179
  t26 := Tryz.underlying9
  a26 := Tryz.isAgg9
  z26 := Tryz.sizeOf9
  v26 := Tryz.zeroValue9
  t27 := Tryz.underlying247
  a27 := Tryz.isAgg247
  z27 := Tryz.sizeOf247
  v27 := Tryz.zeroValue247
  t28 := Tryz.underlying248
  a28 := Tryz.isAgg248
  z28 := Tryz.sizeOf248
  v28 := Tryz.zeroValue248
  t33 := Tryz.underlying154
  a33 := Tryz.isAgg154
  z33 := Tryz.sizeOf154
  v33 := Tryz.zeroValue154 }
def Tryz.sorted158_ren : Go.Shelf.Ren := ⟨fun | 6 => 158 | 8 => 220 | 9 => 221 | 11 => 280 | 13 => 245 | 12 => 281 | 23 => 310 | 24 => 311 | 14 => 349 | 15 => 350 | 16 => 351 | 17 => 352 | 18 => 353 | 19 => 354 | 20 => 355 | 21 => 356 | 22 => 357 | 25 => 387 | 26 => 366 | 27 => 367 | 28 => 388 | 29 => 389 | 30 => 390 | 31 => 410 | n => n, fun | 26 => 9 | 28 => 248 | 24 => 152 | 0 => 0 | 3 => 3 | 37 => 261 | 48 => 284 | 50 => 260 | 4 => 4 | 40 => 402 | 39 => 401 | 45 => 406 | 5 => 5 | 9 => 9 | 51 => 442 | 55 => 205 | 57 => 470 | 58 => 317 | 33 => 154 | n => n, fun | n => n⟩
theorem Tryz.sorted158 : Go.Proofs.SlLaysZ.n6 Tryz.prog Tryz.sorted158_ren := {
  mixed := by kernel_rfl
  f6 := ⟨Tryz.f158.name, by decide, Tryz.func158.trans (congrArg some (by kernel_rfl))⟩
  f8 := ⟨Tryz.f220.name, by decide, Tryz.func220.trans (congrArg some (by kernel_rfl))⟩
  f11 := ⟨Tryz.f280.name, by decide, Tryz.func280.trans (congrArg some (by kernel_rfl))⟩
  t0 := Tryz.underlying0
  a0 := Tryz.isAgg0
  z0 := Tryz.sizeOf0
  v0 := Tryz.zeroValue0
  t24 := Tryz.underlying152
  a24 := Tryz.isAgg152
  z24 := Tryz.sizeOf152
  v24 := Tryz.zeroValue152
  t26 := Tryz.underlying9
  a26 := Tryz.isAgg9
  z26 := Tryz.sizeOf9
  v26 := Tryz.zeroValue9
  t28 := Tryz.underlying248
  a28 := Tryz.isAgg248
  z28 := Tryz.sizeOf248
  v28 := Tryz.zeroValue248
  i26 := by kernel_rfl }
def Tryz.sort221_ren : Go.Shelf.Ren := ⟨fun | 6 => 221 | 8 => 245 | 9 => 281 | 19 => 310 | 20 => 311 | 21 => 349 | 22 => 350 | 23 => 351 | 24 => 352 | 25 => 353 | 26 => 354 | 27 => 355 | 28 => 356 | 29 => 357 | 36 => 387 | 31 => 366 | 32 => 367 | 37 => 388 | 38 => 389 | 39 => 390 | 41 => 410 | n => n, fun | 27 => 152 | 29 => 9 | 3 => 3 | 32 => 261 | 26 => 152 | 0 => 0 | 44 => 284 | 46 => 260 | 4 => 4 | 36 => 402 | 35 => 401 | 41 => 406 | 5 => 5 | 9 => 9 | 53 => 442 | 57 => 205 | 63 => 470 | 64 => 317 | n => n, fun | n => n⟩
theorem Tryz.sort221 : Go.Proofs.SlLaysM.n6 Tryz.prog Tryz.sort221_ren := {
  mixed := by kernel_rfl
  f6 := ⟨Tryz.f221.name, by decide, Tryz.func221.trans (congrArg some (by kernel_rfl))⟩
  f8 := Tryz.func245.trans (congrArg some (by kernel_rfl))
  f9 := ⟨Tryz.f281.name, by decide, Tryz.func281.trans (congrArg some (by kernel_rfl))⟩
  f19 := Tryz.func310.trans (congrArg some (by kernel_rfl))
  f20 := Tryz.func311.trans (congrArg some (by kernel_rfl))
  f21 := ⟨Tryz.f349.name, by decide, Tryz.func349.trans (congrArg some (by kernel_rfl))⟩
  f22 := ⟨Tryz.f350.name, by decide, Tryz.func350.trans (congrArg some (by kernel_rfl))⟩
  f23 := ⟨Tryz.f351.name, by decide, Tryz.func351.trans (congrArg some (by kernel_rfl))⟩
  f24 := ⟨Tryz.f352.name, by decide, Tryz.func352.trans (congrArg some (by kernel_rfl))⟩
  f25 := ⟨Tryz.f353.name, by decide, Tryz.func353.trans (congrArg some (by kernel_rfl))⟩
  f26 := ⟨Tryz.f354.name, by decide, Tryz.func354.trans (congrArg some (by kernel_rfl))⟩
  f27 := ⟨Tryz.f355.name, by decide, Tryz.func355.trans (congrArg some (by kernel_rfl))⟩
  f28 := ⟨Tryz.f356.name, by decide, Tryz.func356.trans (congrArg some (by kernel_rfl))⟩
  f29 := ⟨Tryz.f357.name, by decide, Tryz.func357.trans (congrArg some (by kernel_rfl))⟩
  f31 := Tryz.func366.trans (congrArg some (by kernel_rfl))
  f32 := Tryz.func367.trans (congrArg some (by kernel_rfl))
  f36 := ⟨Tryz.f387.name, by decide, Tryz.func387.trans (congrArg some (by kernel_rfl))⟩
  f37 := ⟨Tryz.f388.name, by decide, Tryz.func388.trans (congrArg some (by kernel_rfl))⟩
  f38 := ⟨Tryz.f389.name, by decide, Tryz.func389.trans (congrArg some (by kernel_rfl))⟩
  f39 := ⟨Tryz.f390.name, by decide, Tryz.func390.trans (congrArg some (by kernel_rfl))⟩
  f41 := ⟨Tryz.f410.name, by decide, Tryz.func410.trans (congrArg some (by kernel_rfl))⟩
  t0 := Tryz.underlying0
  a0 := Tryz.isAgg0
  z0 := Tryz.sizeOf0
  v0 := Tryz.zeroValue0
  t3 := Tryz.underlying3
  a3 := Tryz.isAgg3
  z3 := Tryz.sizeOf3
  v3 := Tryz.zeroValue3
  t4 := Tryz.underlying4
  a4 := Tryz.isAgg4
  z4 := Tryz.sizeOf4
  v4 := Tryz.zeroValue4
  t5 := Tryz.underlying5
  a5 := Tryz.isAgg5
  z5 := Tryz.sizeOf5
  v5 := Tryz.zeroValue5
  t9 := Tryz.underlying9
  a9 := Tryz.isAgg9
  z9 := Tryz.sizeOf9
  v9 := Tryz.zeroValue9
  t26 := Tryz.underlying152
  a26 := Tryz.isAgg152
  z26 := Tryz.sizeOf152
  v26 := Tryz.zeroValue152
  t27 := Tryz.underlying152
  a27 := Tryz.isAgg152
  z27 := Tryz.sizeOf152
  v27 := Tryz.zeroValue152
  t29 := Tryz.underlying9
  a29 := Tryz.isAgg9
  z29 := Tryz.sizeOf9
  v29 := Tryz.zeroValue9
  t32 := Tryz.underlying261
  a32 := Tryz.isAgg261
  z32 := Tryz.sizeOf261
  v32 := Tryz.zeroValue261
  t35 := Tryz.underlying401
  a35 := Tryz.isAgg401
  z35 := Tryz.sizeOf401
  v35 := Tryz.zeroValue401
  t36 := Tryz.underlying402
  a36 := Tryz.isAgg402
  z36 := Tryz.sizeOf402
  v36 := Tryz.zeroValue402
  t41 := Tryz.underlying406
  a41 := Tryz.isAgg406
  z41 := Tryz.sizeOf406
  v41 := Tryz.zeroValue406
  t44 := Tryz.underlying284
  a44 := Tryz.isAgg284
  z44 := Tryz.sizeOf284
  v44 := Tryz.zeroValue284
  t46 := Tryz.underlying260
  a46 := Tryz.isAgg260
  z46 := Tryz.sizeOf260
  v46 := Tryz.zeroValue260
  t53 := Tryz.underlying442
  a53 := Tryz.isAgg442
  z53 := Tryz.sizeOf442
  v53 := Tryz.zeroValue442
  t57 := Tryz.underlying205
  a57 := Tryz.isAgg205
  z57 := Tryz.sizeOf205
  v57 := Tryz.zeroValue205
  t63 := Tryz.underlying470
  a63 := Tryz.isAgg470
  z63 := Tryz.sizeOf470
  v63 := Tryz.zeroValue470
  t64 := Tryz.underlying317
  a64 := Tryz.isAgg317
  z64 := Tryz.sizeOf317
  v64 := Tryz.zeroValue317 }
def Tryz.keys242_ren : Go.Shelf.Ren := ⟨fun | 7 => 242 | 10 => 300 | n => n, fun | 23 => 277 | 26 => 9 | 3 => 46 | 28 => 248 | 0 => 0 | 27 => 247 | 33 => 154 | 4 => 4 | n => n, fun | n => n⟩
theorem Tryz.keys242 : Go.Proofs.SlLaysZ.n7 Tryz.prog Tryz.keys242_ren := {
  mixed := by kernel_rfl
  f7 := ⟨Tryz.f242.name, by decide, Tryz.func242.trans (congrArg some (by kernel_rfl))⟩
  f10 := ⟨Tryz.f300.name, by decide, Tryz.func300.trans (congrArg some (by kernel_rfl))⟩
  t0 := Tryz.underlying0
  a0 := Tryz.isAgg0
  z0 := Tryz.sizeOf0
  v0 := Tryz.zeroValue0
  t4 := Tryz.underlying4
  a4 := Tryz.isAgg4
  z4 := Tryz.sizeOf4
  v4 := Tryz.zeroValue4
  t23 := Tryz.underlying277
  a23 := Tryz.isAgg277
  z23 := Tryz.sizeOf277
  v23 := Tryz.zeroValue277
  t26 := Tryz.underlying9
  a26 := Tryz.isAgg9
  z26 := Tryz.sizeOf9
  v26 := Tryz.zeroValue9
  t27 := Tryz.underlying247
  a27 := Tryz.isAgg247
  z27 := Tryz.sizeOf247
  v27 := Tryz.zeroValue247
  t28 := Tryz.underlying248
  a28 := Tryz.isAgg248
  z28 := Tryz.sizeOf248
  v28 := Tryz.zeroValue248
  t33 := Tryz.underlying154
  a33 := Tryz.isAgg154
  z33 := Tryz.sizeOf154
  v33 := Tryz.zeroValue154 }
def Tryz.keys283_ren : Go.Shelf.Ren := ⟨fun | 7 => 283 | 10 => 358 | n => n, fun | 23 => 89 | 26 => 9 | 3 => 126 | 28 => 248 | 0 => 0 | 27 => 247 | 33 => 154 | 4 => 4 | n => n, fun | n => n⟩
theorem Tryz.keys283 : Go.Proofs.SlLaysZ.n7 Tryz.prog Tryz.keys283_ren := {
  mixed := by kernel_rfl
  f7 := ⟨Tryz.f283.name, by decide, Tryz.func283.trans (congrArg some (by kernel_rfl))⟩
  f10 := ⟨Tryz.f358.name, by decide, Tryz.func358.trans (congrArg some (by kernel_rfl))⟩
  t0 := Tryz.underlying0
  a0 := Tryz.isAgg0
  z0 := Tryz.sizeOf0
  v0 := Tryz.zeroValue0
  t4 := Tryz.underlying4
  a4 := Tryz.isAgg4
  z4 := Tryz.sizeOf4
  v4 := Tryz.zeroValue4
  t23 := Tryz.underlying89
  a23 := Tryz.isAgg89
  z23 := Tryz.sizeOf89
  v23 := Tryz.zeroValue89
  t26 := Tryz.underlying9
  a26 := Tryz.isAgg9
  z26 := Tryz.sizeOf9
  v26 := Tryz.zeroValue9
  t27 := Tryz.underlying247
  a27 := Tryz.isAgg247
  z27 := Tryz.sizeOf247
  v27 := Tryz.zeroValue247
  t28 := Tryz.underlying248
  a28 := Tryz.isAgg248
  z28 := Tryz.sizeOf248
  v28 := Tryz.zeroValue248
  t33 := Tryz.underlying154
  a33 := Tryz.isAgg154
  z33 := Tryz.sizeOf154
  v33 := Tryz.zeroValue154 }
open Go.RowKit Go.Maps Go.Sort Go.Shelf

/-- slices.Sort's two contracts at this dump, at the fence that asks nothing. -/
theorem Tryz.sorts158 (m : Nat) : AnyZ.SortsIn Tryz.prog Tryz.sorted158_ren Fence.wide m :=
  ⟨fun blk off cap ss W hH hblk hsz => callsIn_wide.2 (AnyM.slices_Sort_string Tryz.sort221 blk off cap ss W hH hblk hsz),
   fun p cap W => callsIn_wide.2 (AnyM.slices_Sort_string_none Tryz.sort221 p cap W)⟩

/-- **maps.Keys[map[string]*satrapy/vault.Vault,string,*satrapy/vault.Vault], at whatever map, the nil one too:** a function value over ONE NEW BLOCK, which holds the map. -/
theorem Tryz.maps_Keys_159 (mb : Option Nat) (W : World) : CallsIn Fence.wide 5 Tryz.prog 159 #[.map mb] W fun e w' => e = .returned (.func (.func 222) #[] #[.pointer (some ⟨W.heap.size, 0, none⟩)]) ∧ w' = W.alloc (.cells #[.map mb] 179) :=
  AnyZ.keys_in Tryz.keys159 Fence.wide 5 trivial rfl mb W

set_option maxHeartbeats 1000000 in
/-- **slices.Sorted[string] AT WHAT maps.Keys[map[string]*satrapy/vault.Vault,string,*satrapy/vault.Vault] HANDED BACK FOR A MAP THAT IS NOT nil** ('w': the world AHEAD of maps.Keys' call): A NEW SLICE THAT HOLDS THE MAP's KEYS, SORTED; nil just where it has none; nothing that lay before has turned. -/
theorem Tryz.slices_Sorted_keys_158_159 {H : Type} (b nn : Nat) (D0 : DataW H) (R : Value → Option (DataW H × List MemPlace)) (w : World) (hown : w.ownsMap Tryz.prog 9 R b nn D0) (hmax : Maps.size D0 ≤ maxLen) (hbytes : Maps.size D0 * 16 ≤ 140737488355328) :
    CallsIn Fence.wide 5 Tryz.prog 158 #[.func (.func 222) #[] #[.pointer (some ⟨w.heap.size, 0, none⟩)]] (w.alloc (.cells #[.map (some b)] 179)) fun e w' => ∃ (v : Value) (ss : List (List UInt8)), e = .returned v ∧ ss.Perm (strKeys D0) ∧
      w'.ownsRow (w.alloc (.cells #[.map (some b)] 179)).heap.size 9 1 v ss.length ((ss.mergeSort (fun x y => decide (x ≤ y))).map encStr) ∧ (v = .slice none 0 0 ↔ ss = []) ∧ Below (w.alloc (.cells #[.map (some b)] 179)).heap.size (w.alloc (.cells #[.map (some b)] 179)) w' := by
  have hbl := hown.lt
  have hseq : SeqGives Fence.wide 2 Tryz.prog 222 #[.pointer (some ⟨w.heap.size, 0, none⟩)] encStr (fun ss => ss.Perm (strKeys D0)) (Maps.size D0) (w.alloc (.cells #[.map (some b)] 179)) :=
    AnyZ.keys_gives (ρ := Tryz.keys159_ren) { Tryz.keys159 with } Fence.wide _ trivial rfl (by omega) w.heap.size b nn D0 _ (by simp) (by simp) (by
      obtain ⟨es, clock, hb, Ft, hs, hD⟩ := hown
      exact ⟨es, clock, (Below.heap_alloc _ _ b hbl).trans hb, Ft, hs, hD⟩)
  exact AnyZ.sorted_in Tryz.sorted158 Fence.wide 5 trivial trivial trivial trivial rfl (by omega) (Tryz.sorts158 _) (enters_of Tryz.func221 (by kernel_rfl) rfl) 222 #[.pointer (some ⟨w.heap.size, 0, none⟩)] trivial (enters_of Tryz.func222 (by kernel_rfl) rfl) _ _ hmax hbytes _ hseq

set_option maxHeartbeats 1000000 in
/-- **.. AND FOR THE nil MAP: nil.** -/
theorem Tryz.slices_Sorted_keys_nil_158_159 (w : World) :
    CallsIn Fence.wide 5 Tryz.prog 158 #[.func (.func 222) #[] #[.pointer (some ⟨w.heap.size, 0, none⟩)]] (w.alloc (.cells #[.map none] 179)) fun e w' => ∃ (v : Value) (ss : List (List UInt8)), e = .returned v ∧ ss = [] ∧
      w'.ownsRow (w.alloc (.cells #[.map none] 179)).heap.size 9 1 v ss.length ((ss.mergeSort (fun x y => decide (x ≤ y))).map encStr) ∧ (v = .slice none 0 0 ↔ ss = []) ∧ Below (w.alloc (.cells #[.map none] 179)).heap.size (w.alloc (.cells #[.map none] 179)) w' := by
  have hseq : SeqGives Fence.wide 2 Tryz.prog 222 #[.pointer (some ⟨w.heap.size, 0, none⟩)] encStr (fun ss : List (List UInt8) => ss = []) 0 (w.alloc (.cells #[.map none] 179)) :=
    AnyZ.keys_gives_nil (ρ := Tryz.keys159_ren) { Tryz.keys159 with } Fence.wide _ trivial rfl w.heap.size _ (by simp) (by simp)
  exact AnyZ.sorted_in Tryz.sorted158 Fence.wide 5 trivial trivial trivial trivial rfl (by omega) (Tryz.sorts158 _) (enters_of Tryz.func221 (by kernel_rfl) rfl) 222 #[.pointer (some ⟨w.heap.size, 0, none⟩)] trivial (enters_of Tryz.func222 (by kernel_rfl) rfl) _ 0 (Nat.zero_le _) (by omega) _ hseq

/-- **maps.Keys[map[string]satrapy/api.Items,string,satrapy/api.Items], at whatever map, the nil one too:** a function value over ONE NEW BLOCK, which holds the map. -/
theorem Tryz.maps_Keys_242 (mb : Option Nat) (W : World) : CallsIn Fence.wide 5 Tryz.prog 242 #[.map mb] W fun e w' => e = .returned (.func (.func 300) #[] #[.pointer (some ⟨W.heap.size, 0, none⟩)]) ∧ w' = W.alloc (.cells #[.map mb] 277) :=
  AnyZ.keys_in Tryz.keys242 Fence.wide 5 trivial rfl mb W

set_option maxHeartbeats 1000000 in
/-- **slices.Sorted[string] AT WHAT maps.Keys[map[string]satrapy/api.Items,string,satrapy/api.Items] HANDED BACK FOR A MAP THAT IS NOT nil** ('w': the world AHEAD of maps.Keys' call): A NEW SLICE THAT HOLDS THE MAP's KEYS, SORTED; nil just where it has none; nothing that lay before has turned. -/
theorem Tryz.slices_Sorted_keys_158_242 {H : Type} (b nn : Nat) (D0 : DataW H) (R : Value → Option (DataW H × List MemPlace)) (w : World) (hown : w.ownsMap Tryz.prog 9 R b nn D0) (hmax : Maps.size D0 ≤ maxLen) (hbytes : Maps.size D0 * 16 ≤ 140737488355328) :
    CallsIn Fence.wide 5 Tryz.prog 158 #[.func (.func 300) #[] #[.pointer (some ⟨w.heap.size, 0, none⟩)]] (w.alloc (.cells #[.map (some b)] 277)) fun e w' => ∃ (v : Value) (ss : List (List UInt8)), e = .returned v ∧ ss.Perm (strKeys D0) ∧
      w'.ownsRow (w.alloc (.cells #[.map (some b)] 277)).heap.size 9 1 v ss.length ((ss.mergeSort (fun x y => decide (x ≤ y))).map encStr) ∧ (v = .slice none 0 0 ↔ ss = []) ∧ Below (w.alloc (.cells #[.map (some b)] 277)).heap.size (w.alloc (.cells #[.map (some b)] 277)) w' := by
  have hbl := hown.lt
  have hseq : SeqGives Fence.wide 2 Tryz.prog 300 #[.pointer (some ⟨w.heap.size, 0, none⟩)] encStr (fun ss => ss.Perm (strKeys D0)) (Maps.size D0) (w.alloc (.cells #[.map (some b)] 277)) :=
    AnyZ.keys_gives (ρ := Tryz.keys242_ren) { Tryz.keys242 with } Fence.wide _ trivial rfl (by omega) w.heap.size b nn D0 _ (by simp) (by simp) (by
      obtain ⟨es, clock, hb, Ft, hs, hD⟩ := hown
      exact ⟨es, clock, (Below.heap_alloc _ _ b hbl).trans hb, Ft, hs, hD⟩)
  exact AnyZ.sorted_in Tryz.sorted158 Fence.wide 5 trivial trivial trivial trivial rfl (by omega) (Tryz.sorts158 _) (enters_of Tryz.func221 (by kernel_rfl) rfl) 300 #[.pointer (some ⟨w.heap.size, 0, none⟩)] trivial (enters_of Tryz.func300 (by kernel_rfl) rfl) _ _ hmax hbytes _ hseq

set_option maxHeartbeats 1000000 in
/-- **.. AND FOR THE nil MAP: nil.** -/
theorem Tryz.slices_Sorted_keys_nil_158_242 (w : World) :
    CallsIn Fence.wide 5 Tryz.prog 158 #[.func (.func 300) #[] #[.pointer (some ⟨w.heap.size, 0, none⟩)]] (w.alloc (.cells #[.map none] 277)) fun e w' => ∃ (v : Value) (ss : List (List UInt8)), e = .returned v ∧ ss = [] ∧
      w'.ownsRow (w.alloc (.cells #[.map none] 277)).heap.size 9 1 v ss.length ((ss.mergeSort (fun x y => decide (x ≤ y))).map encStr) ∧ (v = .slice none 0 0 ↔ ss = []) ∧ Below (w.alloc (.cells #[.map none] 277)).heap.size (w.alloc (.cells #[.map none] 277)) w' := by
  have hseq : SeqGives Fence.wide 2 Tryz.prog 300 #[.pointer (some ⟨w.heap.size, 0, none⟩)] encStr (fun ss : List (List UInt8) => ss = []) 0 (w.alloc (.cells #[.map none] 277)) :=
    AnyZ.keys_gives_nil (ρ := Tryz.keys242_ren) { Tryz.keys242 with } Fence.wide _ trivial rfl w.heap.size _ (by simp) (by simp)
  exact AnyZ.sorted_in Tryz.sorted158 Fence.wide 5 trivial trivial trivial trivial rfl (by omega) (Tryz.sorts158 _) (enters_of Tryz.func221 (by kernel_rfl) rfl) 300 #[.pointer (some ⟨w.heap.size, 0, none⟩)] trivial (enters_of Tryz.func300 (by kernel_rfl) rfl) _ 0 (Nat.zero_le _) (by omega) _ hseq

/-- **maps.Keys[map[string]*satrapy/disk.file,string,*satrapy/disk.file], at whatever map, the nil one too:** a function value over ONE NEW BLOCK, which holds the map. -/
theorem Tryz.maps_Keys_283 (mb : Option Nat) (W : World) : CallsIn Fence.wide 5 Tryz.prog 283 #[.map mb] W fun e w' => e = .returned (.func (.func 358) #[] #[.pointer (some ⟨W.heap.size, 0, none⟩)]) ∧ w' = W.alloc (.cells #[.map mb] 89) :=
  AnyZ.keys_in Tryz.keys283 Fence.wide 5 trivial rfl mb W

set_option maxHeartbeats 1000000 in
/-- **slices.Sorted[string] AT WHAT maps.Keys[map[string]*satrapy/disk.file,string,*satrapy/disk.file] HANDED BACK FOR A MAP THAT IS NOT nil** ('w': the world AHEAD of maps.Keys' call): A NEW SLICE THAT HOLDS THE MAP's KEYS, SORTED; nil just where it has none; nothing that lay before has turned. -/
theorem Tryz.slices_Sorted_keys_158_283 {H : Type} (b nn : Nat) (D0 : DataW H) (R : Value → Option (DataW H × List MemPlace)) (w : World) (hown : w.ownsMap Tryz.prog 9 R b nn D0) (hmax : Maps.size D0 ≤ maxLen) (hbytes : Maps.size D0 * 16 ≤ 140737488355328) :
    CallsIn Fence.wide 5 Tryz.prog 158 #[.func (.func 358) #[] #[.pointer (some ⟨w.heap.size, 0, none⟩)]] (w.alloc (.cells #[.map (some b)] 89)) fun e w' => ∃ (v : Value) (ss : List (List UInt8)), e = .returned v ∧ ss.Perm (strKeys D0) ∧
      w'.ownsRow (w.alloc (.cells #[.map (some b)] 89)).heap.size 9 1 v ss.length ((ss.mergeSort (fun x y => decide (x ≤ y))).map encStr) ∧ (v = .slice none 0 0 ↔ ss = []) ∧ Below (w.alloc (.cells #[.map (some b)] 89)).heap.size (w.alloc (.cells #[.map (some b)] 89)) w' := by
  have hbl := hown.lt
  have hseq : SeqGives Fence.wide 2 Tryz.prog 358 #[.pointer (some ⟨w.heap.size, 0, none⟩)] encStr (fun ss => ss.Perm (strKeys D0)) (Maps.size D0) (w.alloc (.cells #[.map (some b)] 89)) :=
    AnyZ.keys_gives (ρ := Tryz.keys283_ren) { Tryz.keys283 with } Fence.wide _ trivial rfl (by omega) w.heap.size b nn D0 _ (by simp) (by simp) (by
      obtain ⟨es, clock, hb, Ft, hs, hD⟩ := hown
      exact ⟨es, clock, (Below.heap_alloc _ _ b hbl).trans hb, Ft, hs, hD⟩)
  exact AnyZ.sorted_in Tryz.sorted158 Fence.wide 5 trivial trivial trivial trivial rfl (by omega) (Tryz.sorts158 _) (enters_of Tryz.func221 (by kernel_rfl) rfl) 358 #[.pointer (some ⟨w.heap.size, 0, none⟩)] trivial (enters_of Tryz.func358 (by kernel_rfl) rfl) _ _ hmax hbytes _ hseq

set_option maxHeartbeats 1000000 in
/-- **.. AND FOR THE nil MAP: nil.** -/
theorem Tryz.slices_Sorted_keys_nil_158_283 (w : World) :
    CallsIn Fence.wide 5 Tryz.prog 158 #[.func (.func 358) #[] #[.pointer (some ⟨w.heap.size, 0, none⟩)]] (w.alloc (.cells #[.map none] 89)) fun e w' => ∃ (v : Value) (ss : List (List UInt8)), e = .returned v ∧ ss = [] ∧
      w'.ownsRow (w.alloc (.cells #[.map none] 89)).heap.size 9 1 v ss.length ((ss.mergeSort (fun x y => decide (x ≤ y))).map encStr) ∧ (v = .slice none 0 0 ↔ ss = []) ∧ Below (w.alloc (.cells #[.map none] 89)).heap.size (w.alloc (.cells #[.map none] 89)) w' := by
  have hseq : SeqGives Fence.wide 2 Tryz.prog 358 #[.pointer (some ⟨w.heap.size, 0, none⟩)] encStr (fun ss : List (List UInt8) => ss = []) 0 (w.alloc (.cells #[.map none] 89)) :=
    AnyZ.keys_gives_nil (ρ := Tryz.keys283_ren) { Tryz.keys283 with } Fence.wide _ trivial rfl w.heap.size _ (by simp) (by simp)
  exact AnyZ.sorted_in Tryz.sorted158 Fence.wide 5 trivial trivial trivial trivial rfl (by omega) (Tryz.sorts158 _) (enters_of Tryz.func221 (by kernel_rfl) rfl) 358 #[.pointer (some ⟨w.heap.size, 0, none⟩)] trivial (enters_of Tryz.func358 (by kernel_rfl) rfl) _ 0 (Nat.zero_le _) (by omega) _ hseq


end Go.Proofs

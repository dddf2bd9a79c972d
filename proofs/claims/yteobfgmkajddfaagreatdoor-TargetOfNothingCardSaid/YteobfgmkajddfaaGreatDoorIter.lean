/- The contracts of slices.Sorted of maps.Keys at this program, in plain words; written by the programs of the kit (lay-iter, lay-plain). -/
import Derived.Shelf.SlIter.Nil
import Derived.Shelf.SortM.Plain
import Derived.Shelf.SortM.SortNone
import Derived.Ground.GgzProg
import Derived.Ground.SlgmProg
import Derived.Test.YteobfgmkajddfaaGreatDoorProg
namespace Go.Proofs
open Go.Shelf
def Tryz.keys157_ren : Go.Shelf.Ren := ⟨fun | 7 => 157 | 10 => 213 | n => n, fun | 23 => 173 | 26 => 9 | 3 => 172 | 28 => 243 | 0 => 0 | 27 => 242 | 33 => 142 | 4 => 4 | n => n, fun | n => n⟩
theorem Tryz.keys157 : Go.Proofs.SlLaysZ.n7 Tryz.prog Tryz.keys157_ren := {
  mixed := by kernel_rfl
  f7 := ⟨Tryz.f157.name, by decide, Tryz.func157.trans (congrArg some (by kernel_rfl))⟩
  f10 := ⟨Tryz.f213.name, by decide, Tryz.func213.trans (congrArg some (by kernel_rfl))⟩
  t0 := Tryz.underlying0
  a0 := Tryz.isAgg0
  z0 := Tryz.sizeOf0
  v0 := Tryz.zeroValue0
  t4 := Tryz.underlying4
  a4 := Tryz.isAgg4
  z4 := Tryz.sizeOf4
  v4 := Tryz.zeroValue4
  t23 := Tryz.underlying173
  a23 := Tryz.isAgg173
  z23 := Tryz.sizeOf173
  v23 := Tryz.zeroValue173
  t26 := Tryz.underlying9
  a26 := Tryz.isAgg9
  z26 := Tryz.sizeOf9
  v26 := Tryz.zeroValue9
  t27 := Tryz.underlying242
  a27 := Tryz.isAgg242
  z27 := Tryz.sizeOf242
  v27 := Tryz.zeroValue242
  t28 := Tryz.underlying243
  a28 := Tryz.isAgg243
  z28 := Tryz.sizeOf243
  v28 := Tryz.zeroValue243
  t33 := Tryz.underlying142
  a33 := Tryz.isAgg142
  z33 := Tryz.sizeOf142
  v33 := Tryz.zeroValue142 }
def Tryz.sorted156_ren : Go.Shelf.Ren := ⟨fun | 6 => 156 | 8 => 211 | 9 => 212 | 11 => 248 | 13 => 236 | 12 => 249 | 23 => 278 | 24 => 279 | 14 => 296 | 15 => 297 | 16 => 298 | 17 => 299 | 18 => 300 | 19 => 301 | 20 => 302 | 21 => 303 | 22 => 304 | 25 => 324 | 26 => 313 | 27 => 314 | 28 => 325 | 29 => 326 | 30 => 327 | 31 => 340 | n => n, fun | 26 => 9 | 28 => 243 | 24 => 140 | 0 => 0 | 3 => 3 | 37 => 256 | 48 => 279 | 50 => 255 | 4 => 4 | 40 => 374 | 39 => 373 | 45 => 378 | 5 => 5 | 9 => 9 | 51 => 412 | 55 => 199 | 57 => 432 | 58 => 433 | 33 => 142 | n => n, fun | n => n⟩
theorem Tryz.sorted156 : Go.Proofs.SlLaysZ.n6 Tryz.prog Tryz.sorted156_ren := {
  mixed := by kernel_rfl
  f6 := ⟨Tryz.f156.name, by decide, Tryz.func156.trans (congrArg some (by kernel_rfl))⟩
  f8 := ⟨Tryz.f211.name, by decide, Tryz.func211.trans (congrArg some (by kernel_rfl))⟩
  f11 := ⟨Tryz.f248.name, by decide, Tryz.func248.trans (congrArg some (by kernel_rfl))⟩
  t0 := Tryz.underlying0
  a0 := Tryz.isAgg0
  z0 := Tryz.sizeOf0
  v0 := Tryz.zeroValue0
  t24 := Tryz.underlying140
  a24 := Tryz.isAgg140
  z24 := Tryz.sizeOf140
  v24 := Tryz.zeroValue140
  t26 := Tryz.underlying9
  a26 := Tryz.isAgg9
  z26 := Tryz.sizeOf9
  v26 := Tryz.zeroValue9
  t28 := Tryz.underlying243
  a28 := Tryz.isAgg243
  z28 := Tryz.sizeOf243
  v28 := Tryz.zeroValue243
  i26 := by kernel_rfl }
def Tryz.sort212_ren : Go.Shelf.Ren := ⟨fun | 6 => 212 | 8 => 236 | 9 => 249 | 19 => 278 | 20 => 279 | 21 => 296 | 22 => 297 | 23 => 298 | 24 => 299 | 25 => 300 | 26 => 301 | 27 => 302 | 28 => 303 | 29 => 304 | 36 => 324 | 31 => 313 | 32 => 314 | 37 => 325 | 38 => 326 | 39 => 327 | 41 => 340 | n => n, fun | 27 => 140 | 29 => 9 | 3 => 3 | 32 => 256 | 26 => 140 | 0 => 0 | 44 => 279 | 46 => 255 | 4 => 4 | 36 => 374 | 35 => 373 | 41 => 378 | 5 => 5 | 9 => 9 | 53 => 412 | 57 => 199 | 63 => 432 | 64 => 433 | n => n, fun | n => n⟩
theorem Tryz.sort212 : Go.Proofs.SlLaysM.n6 Tryz.prog Tryz.sort212_ren := {
  mixed := by kernel_rfl
  f6 := ⟨Tryz.f212.name, by decide, Tryz.func212.trans (congrArg some (by kernel_rfl))⟩
  f8 := Tryz.func236.trans (congrArg some (by kernel_rfl))
  f9 := ⟨Tryz.f249.name, by decide, Tryz.func249.trans (congrArg some (by kernel_rfl))⟩
  f19 := Tryz.func278.trans (congrArg some (by kernel_rfl))
  f20 := Tryz.func279.trans (congrArg some (by kernel_rfl))
  f21 := ⟨Tryz.f296.name, by decide, Tryz.func296.trans (congrArg some (by kernel_rfl))⟩
  f22 := ⟨Tryz.f297.name, by decide, Tryz.func297.trans (congrArg some (by kernel_rfl))⟩
  f23 := ⟨Tryz.f298.name, by decide, Tryz.func298.trans (congrArg some (by kernel_rfl))⟩
  f24 := ⟨Tryz.f299.name, by decide, Tryz.func299.trans (congrArg some (by kernel_rfl))⟩
  f25 := ⟨Tryz.f300.name, by decide, Tryz.func300.trans (congrArg some (by kernel_rfl))⟩
  f26 := ⟨Tryz.f301.name, by decide, Tryz.func301.trans (congrArg some (by kernel_rfl))⟩
  f27 := ⟨Tryz.f302.name, by decide, Tryz.func302.trans (congrArg some (by kernel_rfl))⟩
  f28 := ⟨Tryz.f303.name, by decide, Tryz.func303.trans (congrArg some (by kernel_rfl))⟩
  f29 := ⟨Tryz.f304.name, by decide, Tryz.func304.trans (congrArg some (by kernel_rfl))⟩
  f31 := Tryz.func313.trans (congrArg some (by kernel_rfl))
  f32 := Tryz.func314.trans (congrArg some (by kernel_rfl))
  f36 := ⟨Tryz.f324.name, by decide, Tryz.func324.trans (congrArg some (by kernel_rfl))⟩
  f37 := ⟨Tryz.f325.name, by decide, Tryz.func325.trans (congrArg some (by kernel_rfl))⟩
  f38 := ⟨Tryz.f326.name, by decide, Tryz.func326.trans (congrArg some (by kernel_rfl))⟩
  f39 := ⟨Tryz.f327.name, by decide, Tryz.func327.trans (congrArg some (by kernel_rfl))⟩
  f41 := ⟨Tryz.f340.name, by decide, Tryz.func340.trans (congrArg some (by kernel_rfl))⟩
  t0 := Tryz.underlying0
  a0 := Tryz.isAgg0
  z0 := Tryz.sizeOf0
  v0 := Tryz.zeroValue0
  t3 := Tryz.underlying3
  a3 := Tryz.isAgg3
  z3 := Tryz.sizeOf3
  v3 := Tryz.zeroValue3
  t4 := Tryz.underlying4
  a4 := Tryz.isAgg4
  z4 := Tryz.sizeOf4
  v4 := Tryz.zeroValue4
  t5 := Tryz.underlying5
  a5 := Tryz.isAgg5
  z5 := Tryz.sizeOf5
  v5 := Tryz.zeroValue5
  t9 := Tryz.underlying9
  a9 := Tryz.isAgg9
  z9 := Tryz.sizeOf9
  v9 := Tryz.zeroValue9
  t26 := Tryz.underlying140
  a26 := Tryz.isAgg140
  z26 := Tryz.sizeOf140
  v26 := Tryz.zeroValue140
  t27 := Tryz.underlying140
  a27 := Tryz.isAgg140
  z27 := Tryz.sizeOf140
  v27 := Tryz.zeroValue140
  t29 := Tryz.underlying9
  a29 := Tryz.isAgg9
  z29 := Tryz.sizeOf9
  v29 := Tryz.zeroValue9
  t32 := Tryz.underlying256
  a32 := Tryz.isAgg256
  z32 := Tryz.sizeOf256
  v32 := Tryz.zeroValue256
  t35 := Tryz.underlying373
  a35 := Tryz.isAgg373
  z35 := Tryz.sizeOf373
  v35 := Tryz.zeroValue373
  t36 := Tryz.underlying374
  a36 := Tryz.isAgg374
  z36 := Tryz.sizeOf374
  v36 := Tryz.zeroValue374
  t41 := Tryz.underlying378
  a41 := Tryz.isAgg378
  z41 := Tryz.sizeOf378
  v41 := Tryz.zeroValue378
  t44 := Tryz.underlying279
  a44 := Tryz.isAgg279
  z44 := Tryz.sizeOf279
  v44 := Tryz.zeroValue279
  t46 := Tryz.underlying255
  a46 := Tryz.isAgg255
  z46 := Tryz.sizeOf255
  v46 := Tryz.zeroValue255
  t53 := Tryz.underlying412
  a53 := Tryz.isAgg412
  z53 := Tryz.sizeOf412
  v53 := Tryz.zeroValue412
  t57 := Tryz.underlying199
  a57 := Tryz.isAgg199
  z57 := Tryz.sizeOf199
  v57 := Tryz.zeroValue199
  t63 := Tryz.underlying432
  a63 := Tryz.isAgg432
  z63 := Tryz.sizeOf432
  v63 := Tryz.zeroValue432
  t64 := Tryz.underlying433
  a64 := Tryz.isAgg433
  z64 := Tryz.sizeOf433
  v64 := Tryz.zeroValue433 }
def Tryz.keys233_ren : Go.Shelf.Ren := ⟨fun | 7 => 233 | 10 => 268 | n => n, fun | 23 => 272 | 26 => 9 | 3 => 46 | 28 => 243 | 0 => 0 | 27 => 242 | 33 => 142 | 4 => 4 | n => n, fun | n => n⟩
theorem Tryz.keys233 : Go.Proofs.SlLaysZ.n7 Tryz.prog Tryz.keys233_ren := {
  mixed := by kernel_rfl
  f7 := ⟨Tryz.f233.name, by decide, Tryz.func233.trans (congrArg some (by kernel_rfl))⟩
  f10 := ⟨Tryz.f268.name, by decide, Tryz.func268.trans (congrArg some (by kernel_rfl))⟩
  t0 := Tryz.underlying0
  a0 := Tryz.isAgg0
  z0 := Tryz.sizeOf0
  v0 := Tryz.zeroValue0
  t4 := Tryz.underlying4
  a4 := Tryz.isAgg4
  z4 := Tryz.sizeOf4
  v4 := Tryz.zeroValue4
  t23 := Tryz.underlying272
  a23 := Tryz.isAgg272
  z23 := Tryz.sizeOf272
  v23 := Tryz.zeroValue272
  t26 := Tryz.underlying9
  a26 := Tryz.isAgg9
  z26 := Tryz.sizeOf9
  v26 := Tryz.zeroValue9
  t27 := Tryz.underlying242
  a27 := Tryz.isAgg242
  z27 := Tryz.sizeOf242
  v27 := Tryz.zeroValue242
  t28 := Tryz.underlying243
  a28 := Tryz.isAgg243
  z28 := Tryz.sizeOf243
  v28 := Tryz.zeroValue243
  t33 := Tryz.underlying142
  a33 := Tryz.isAgg142
  z33 := Tryz.sizeOf142
  v33 := Tryz.zeroValue142 }
def Tryz.keys251_ren : Go.Shelf.Ren := ⟨fun | 7 => 251 | 10 => 305 | n => n, fun | 23 => 83 | 26 => 9 | 3 => 166 | 28 => 243 | 0 => 0 | 27 => 242 | 33 => 142 | 4 => 4 | n => n, fun | n => n⟩
theorem Tryz.keys251 : Go.Proofs.SlLaysZ.n7 Tryz.prog Tryz.keys251_ren := {
  mixed := by kernel_rfl
  f7 := ⟨Tryz.f251.name, by decide, Tryz.func251.trans (congrArg some (by kernel_rfl))⟩
  f10 := ⟨Tryz.f305.name, by decide, Tryz.func305.trans (congrArg some (by kernel_rfl))⟩
  t0 := Tryz.underlying0
  a0 := Tryz.isAgg0
  z0 := Tryz.sizeOf0
  v0 := Tryz.zeroValue0
  t4 := Tryz.underlying4
  a4 := Tryz.isAgg4
  z4 := Tryz.sizeOf4
  v4 := Tryz.zeroValue4
  t23 := Tryz.underlying83
  a23 := Tryz.isAgg83
  z23 := Tryz.sizeOf83
  v23 := Tryz.zeroValue83
  t26 := Tryz.underlying9
  a26 := Tryz.isAgg9
  z26 := Tryz.sizeOf9
  v26 := Tryz.zeroValue9
  t27 := Tryz.underlying242
  a27 := Tryz.isAgg242
  z27 := Tryz.sizeOf242
  v27 := Tryz.zeroValue242
  t28 := Tryz.underlying243
  a28 := Tryz.isAgg243
  z28 := Tryz.sizeOf243
  v28 := Tryz.zeroValue243
  t33 := Tryz.underlying142
  a33 := Tryz.isAgg142
  z33 := Tryz.sizeOf142
  v33 := Tryz.zeroValue142 }
open Go.RowKit Go.Maps Go.Sort Go.Shelf

/-- slices.Sort's two contracts at this dump, at the fence that asks nothing. -/
theorem Tryz.sorts156 (m : Nat) : AnyZ.SortsIn Tryz.prog Tryz.sorted156_ren Fence.wide m :=
  ⟨fun blk off cap ss W hH hblk hsz => callsIn_wide.2 (AnyM.slices_Sort_string Tryz.sort212 blk off cap ss W hH hblk hsz),
   fun p cap W => callsIn_wide.2 (AnyM.slices_Sort_string_none Tryz.sort212 p cap W)⟩

/-- **maps.Keys[map[string]*satrapy/vault.Vault,string,*satrapy/vault.Vault], at whatever map, the nil one too:** a function value over ONE NEW BLOCK, which holds the map. -/
theorem Tryz.maps_Keys_157 (mb : Option Nat) (W : World) : CallsIn Fence.wide 5 Tryz.prog 157 #[.map mb] W fun e w' => e = .returned (.func (.func 213) #[] #[.pointer (some ⟨W.heap.size, 0, none⟩)]) ∧ w' = W.alloc (.cells #[.map mb] 173) :=
  AnyZ.keys_in Tryz.keys157 Fence.wide 5 trivial rfl mb W

set_option maxHeartbeats 1000000 in
/-- **slices.Sorted[string] AT WHAT maps.Keys[map[string]*satrapy/vault.Vault,string,*satrapy/vault.Vault] HANDED BACK FOR A MAP THAT IS NOT nil** ('w': the world AHEAD of maps.Keys' call): A NEW SLICE THAT HOLDS THE MAP's KEYS, SORTED; nil just where it has none; nothing that lay before has turned. -/
theorem Tryz.slices_Sorted_keys_156_157 {H : Type} (b nn : Nat) (D0 : DataW H) (R : Value → Option (DataW H × List MemPlace)) (w : World) (hown : w.ownsMap Tryz.prog 9 R b nn D0) (hmax : Maps.size D0 ≤ maxLen) (hbytes : Maps.size D0 * 16 ≤ 140737488355328) :
    CallsIn Fence.wide 5 Tryz.prog 156 #[.func (.func 213) #[] #[.pointer (some ⟨w.heap.size, 0, none⟩)]] (w.alloc (.cells #[.map (some b)] 173)) fun e w' => ∃ (v : Value) (ss : List (List UInt8)), e = .returned v ∧ ss.Perm (strKeys D0) ∧
      w'.ownsRow (w.alloc (.cells #[.map (some b)] 173)).heap.size 9 1 v ss.length ((ss.mergeSort (fun x y => decide (x ≤ y))).map encStr) ∧ (v = .slice none 0 0 ↔ ss = []) ∧ Below (w.alloc (.cells #[.map (some b)] 173)).heap.size (w.alloc (.cells #[.map (some b)] 173)) w' := by
  have hbl := hown.lt
  have hseq : SeqGives Fence.wide 2 Tryz.prog 213 #[.pointer (some ⟨w.heap.size, 0, none⟩)] encStr (fun ss => ss.Perm (strKeys D0)) (Maps.size D0) (w.alloc (.cells #[.map (some b)] 173)) :=
    AnyZ.keys_gives (ρ := Tryz.keys157_ren) { Tryz.keys157 with } Fence.wide _ trivial rfl (by omega) w.heap.size b nn D0 _ (by simp) (by simp) (by
      obtain ⟨es, clock, hb, Ft, hs, hD⟩ := hown
      exact ⟨es, clock, (Below.heap_alloc _ _ b hbl).trans hb, Ft, hs, hD⟩)
  exact AnyZ.sorted_in Tryz.sorted156 Fence.wide 5 trivial trivial trivial trivial rfl (by omega) (Tryz.sorts156 _) (enters_of Tryz.func212 (by kernel_rfl) rfl) 213 #[.pointer (some ⟨w.heap.size, 0, none⟩)] trivial (enters_of Tryz.func213 (by kernel_rfl) rfl) _ _ hmax hbytes _ hseq

set_option maxHeartbeats 1000000 in
/-- **.. AND FOR THE nil MAP: nil.** -/
theorem Tryz.slices_Sorted_keys_nil_156_157 (w : World) :
    CallsIn Fence.wide 5 Tryz.prog 156 #[.func (.func 213) #[] #[.pointer (some ⟨w.heap.size, 0, none⟩)]] (w.alloc (.cells #[.map none] 173)) fun e w' => ∃ (v : Value) (ss : List (List UInt8)), e = .returned v ∧ ss = [] ∧
      w'.ownsRow (w.alloc (.cells #[.map none] 173)).heap.size 9 1 v ss.length ((ss.mergeSort (fun x y => decide (x ≤ y))).map encStr) ∧ (v = .slice none 0 0 ↔ ss = []) ∧ Below (w.alloc (.cells #[.map none] 173)).heap.size (w.alloc (.cells #[.map none] 173)) w' := by
  have hseq : SeqGives Fence.wide 2 Tryz.prog 213 #[.pointer (some ⟨w.heap.size, 0, none⟩)] encStr (fun ss : List (List UInt8) => ss = []) 0 (w.alloc (.cells #[.map none] 173)) :=
    AnyZ.keys_gives_nil (ρ := Tryz.keys157_ren) { Tryz.keys157 with } Fence.wide _ trivial rfl w.heap.size _ (by simp) (by simp)
  exact AnyZ.sorted_in Tryz.sorted156 Fence.wide 5 trivial trivial trivial trivial rfl (by omega) (Tryz.sorts156 _) (enters_of Tryz.func212 (by kernel_rfl) rfl) 213 #[.pointer (some ⟨w.heap.size, 0, none⟩)] trivial (enters_of Tryz.func213 (by kernel_rfl) rfl) _ 0 (Nat.zero_le _) (by omega) _ hseq

/-- **maps.Keys[map[string]satrapy/api.Items,string,satrapy/api.Items], at whatever map, the nil one too:** a function value over ONE NEW BLOCK, which holds the map. -/
theorem Tryz.maps_Keys_233 (mb : Option Nat) (W : World) : CallsIn Fence.wide 5 Tryz.prog 233 #[.map mb] W fun e w' => e = .returned (.func (.func 268) #[] #[.pointer (some ⟨W.heap.size, 0, none⟩)]) ∧ w' = W.alloc (.cells #[.map mb] 272) :=
  AnyZ.keys_in Tryz.keys233 Fence.wide 5 trivial rfl mb W

set_option maxHeartbeats 1000000 in
/-- **slices.Sorted[string] AT WHAT maps.Keys[map[string]satrapy/api.Items,string,satrapy/api.Items] HANDED BACK FOR A MAP THAT IS NOT nil** ('w': the world AHEAD of maps.Keys' call): A NEW SLICE THAT HOLDS THE MAP's KEYS, SORTED; nil just where it has none; nothing that lay before has turned. -/
theorem Tryz.slices_Sorted_keys_156_233 {H : Type} (b nn : Nat) (D0 : DataW H) (R : Value → Option (DataW H × List MemPlace)) (w : World) (hown : w.ownsMap Tryz.prog 9 R b nn D0) (hmax : Maps.size D0 ≤ maxLen) (hbytes : Maps.size D0 * 16 ≤ 140737488355328) :
    CallsIn Fence.wide 5 Tryz.prog 156 #[.func (.func 268) #[] #[.pointer (some ⟨w.heap.size, 0, none⟩)]] (w.alloc (.cells #[.map (some b)] 272)) fun e w' => ∃ (v : Value) (ss : List (List UInt8)), e = .returned v ∧ ss.Perm (strKeys D0) ∧
      w'.ownsRow (w.alloc (.cells #[.map (some b)] 272)).heap.size 9 1 v ss.length ((ss.mergeSort (fun x y => decide (x ≤ y))).map encStr) ∧ (v = .slice none 0 0 ↔ ss = []) ∧ Below (w.alloc (.cells #[.map (some b)] 272)).heap.size (w.alloc (.cells #[.map (some b)] 272)) w' := by
  have hbl := hown.lt
  have hseq : SeqGives Fence.wide 2 Tryz.prog 268 #[.pointer (some ⟨w.heap.size, 0, none⟩)] encStr (fun ss => ss.Perm (strKeys D0)) (Maps.size D0) (w.alloc (.cells #[.map (some b)] 272)) :=
    AnyZ.keys_gives (ρ := Tryz.keys233_ren) { Tryz.keys233 with } Fence.wide _ trivial rfl (by omega) w.heap.size b nn D0 _ (by simp) (by simp) (by
      obtain ⟨es, clock, hb, Ft, hs, hD⟩ := hown
      exact ⟨es, clock, (Below.heap_alloc _ _ b hbl).trans hb, Ft, hs, hD⟩)
  exact AnyZ.sorted_in Tryz.sorted156 Fence.wide 5 trivial trivial trivial trivial rfl (by omega) (Tryz.sorts156 _) (enters_of Tryz.func212 (by kernel_rfl) rfl) 268 #[.pointer (some ⟨w.heap.size, 0, none⟩)] trivial (enters_of Tryz.func268 (by kernel_rfl) rfl) _ _ hmax hbytes _ hseq

set_option maxHeartbeats 1000000 in
/-- **.. AND FOR THE nil MAP: nil.** -/
theorem Tryz.slices_Sorted_keys_nil_156_233 (w : World) :
    CallsIn Fence.wide 5 Tryz.prog 156 #[.func (.func 268) #[] #[.pointer (some ⟨w.heap.size, 0, none⟩)]] (w.alloc (.cells #[.map none] 272)) fun e w' => ∃ (v : Value) (ss : List (List UInt8)), e = .returned v ∧ ss = [] ∧
      w'.ownsRow (w.alloc (.cells #[.map none] 272)).heap.size 9 1 v ss.length ((ss.mergeSort (fun x y => decide (x ≤ y))).map encStr) ∧ (v = .slice none 0 0 ↔ ss = []) ∧ Below (w.alloc (.cells #[.map none] 272)).heap.size (w.alloc (.cells #[.map none] 272)) w' := by
  have hseq : SeqGives Fence.wide 2 Tryz.prog 268 #[.pointer (some ⟨w.heap.size, 0, none⟩)] encStr (fun ss : List (List UInt8) => ss = []) 0 (w.alloc (.cells #[.map none] 272)) :=
    AnyZ.keys_gives_nil (ρ := Tryz.keys233_ren) { Tryz.keys233 with } Fence.wide _ trivial rfl w.heap.size _ (by simp) (by simp)
  exact AnyZ.sorted_in Tryz.sorted156 Fence.wide 5 trivial trivial trivial trivial rfl (by omega) (Tryz.sorts156 _) (enters_of Tryz.func212 (by kernel_rfl) rfl) 268 #[.pointer (some ⟨w.heap.size, 0, none⟩)] trivial (enters_of Tryz.func268 (by kernel_rfl) rfl) _ 0 (Nat.zero_le _) (by omega) _ hseq

/-- **maps.Keys[map[string]*satrapy/disk.file,string,*satrapy/disk.file], at whatever map, the nil one too:** a function value over ONE NEW BLOCK, which holds the map. -/
theorem Tryz.maps_Keys_251 (mb : Option Nat) (W : World) : CallsIn Fence.wide 5 Tryz.prog 251 #[.map mb] W fun e w' => e = .returned (.func (.func 305) #[] #[.pointer (some ⟨W.heap.size, 0, none⟩)]) ∧ w' = W.alloc (.cells #[.map mb] 83) :=
  AnyZ.keys_in Tryz.keys251 Fence.wide 5 trivial rfl mb W

set_option maxHeartbeats 1000000 in
/-- **slices.Sorted[string] AT WHAT maps.Keys[map[string]*satrapy/disk.file,string,*satrapy/disk.file] HANDED BACK FOR A MAP THAT IS NOT nil** ('w': the world AHEAD of maps.Keys' call): A NEW SLICE THAT HOLDS THE MAP's KEYS, SORTED; nil just where it has none; nothing that lay before has turned. -/
theorem Tryz.slices_Sorted_keys_156_251 {H : Type} (b nn : Nat) (D0 : DataW H) (R : Value → Option (DataW H × List MemPlace)) (w : World) (hown : w.ownsMap Tryz.prog 9 R b nn D0) (hmax : Maps.size D0 ≤ maxLen) (hbytes : Maps.size D0 * 16 ≤ 140737488355328) :
    CallsIn Fence.wide 5 Tryz.prog 156 #[.func (.func 305) #[] #[.pointer (some ⟨w.heap.size, 0, none⟩)]] (w.alloc (.cells #[.map (some b)] 83)) fun e w' => ∃ (v : Value) (ss : List (List UInt8)), e = .returned v ∧ ss.Perm (strKeys D0) ∧
      w'.ownsRow (w.alloc (.cells #[.map (some b)] 83)).heap.size 9 1 v ss.length ((ss.mergeSort (fun x y => decide (x ≤ y))).map encStr) ∧ (v = .slice none 0 0 ↔ ss = []) ∧ Below (w.alloc (.cells #[.map (some b)] 83)).heap.size (w.alloc (.cells #[.map (some b)] 83)) w' := by
  have hbl := hown.lt
  have hseq : SeqGives Fence.wide 2 Tryz.prog 305 #[.pointer (some ⟨w.heap.size, 0, none⟩)] encStr (fun ss => ss.Perm (strKeys D0)) (Maps.size D0) (w.alloc (.cells #[.map (some b)] 83)) :=
    AnyZ.keys_gives (ρ := Tryz.keys251_ren) { Tryz.keys251 with } Fence.wide _ trivial rfl (by omega) w.heap.size b nn D0 _ (by simp) (by simp) (by
      obtain ⟨es, clock, hb, Ft, hs, hD⟩ := hown
      exact ⟨es, clock, (Below.heap_alloc _ _ b hbl).trans hb, Ft, hs, hD⟩)
  exact AnyZ.sorted_in Tryz.sorted156 Fence.wide 5 trivial trivial trivial trivial rfl (by omega) (Tryz.sorts156 _) (enters_of Tryz.func212 (by kernel_rfl) rfl) 305 #[.pointer (some ⟨w.heap.size, 0, none⟩)] trivial (enters_of Tryz.func305 (by kernel_rfl) rfl) _ _ hmax hbytes _ hseq

set_option maxHeartbeats 1000000 in
/-- **.. AND FOR THE nil MAP: nil.** -/
theorem Tryz.slices_Sorted_keys_nil_156_251 (w : World) :
    CallsIn Fence.wide 5 Tryz.prog 156 #[.func (.func 305) #[] #[.pointer (some ⟨w.heap.size, 0, none⟩)]] (w.alloc (.cells #[.map none] 83)) fun e w' => ∃ (v : Value) (ss : List (List UInt8)), e = .returned v ∧ ss = [] ∧
      w'.ownsRow (w.alloc (.cells #[.map none] 83)).heap.size 9 1 v ss.length ((ss.mergeSort (fun x y => decide (x ≤ y))).map encStr) ∧ (v = .slice none 0 0 ↔ ss = []) ∧ Below (w.alloc (.cells #[.map none] 83)).heap.size (w.alloc (.cells #[.map none] 83)) w' := by
  have hseq : SeqGives Fence.wide 2 Tryz.prog 305 #[.pointer (some ⟨w.heap.size, 0, none⟩)] encStr (fun ss : List (List UInt8) => ss = []) 0 (w.alloc (.cells #[.map none] 83)) :=
    AnyZ.keys_gives_nil (ρ := Tryz.keys251_ren) { Tryz.keys251 with } Fence.wide _ trivial rfl w.heap.size _ (by simp) (by simp)
  exact AnyZ.sorted_in Tryz.sorted156 Fence.wide 5 trivial trivial trivial trivial rfl (by omega) (Tryz.sorts156 _) (enters_of Tryz.func212 (by kernel_rfl) rfl) 305 #[.pointer (some ⟨w.heap.size, 0, none⟩)] trivial (enters_of Tryz.func305 (by kernel_rfl) rfl) _ 0 (Nat.zero_le _) (by omega) _ hseq


end Go.Proofs

/- The contracts of slices.Sorted of maps.Keys at this program, in plain words; written by the programs of the kit (lay-iter, lay-plain). -/
import Derived.Shelf.SlIter.Nil
import Derived.Shelf.SortM.Plain
import Derived.Shelf.SortM.SortNone
import Derived.Ground.GgzProg
import Derived.Ground.SlgmProg
import Derived.Test.YtmcanphlgkolcaaGreatDoorProg
set_option maxHeartbeats 1000000
set_option maxRecDepth 10000
namespace Go.Proofs
open Go.Shelf Tryz
def Tryz.keys133_ren:Go.Shelf.Ren:=⟨fun|7=>133|10=>185|n=>n,fun|23=>152|26=>9|3=>151|28=>210|0=>0|27=>209|33=>127|4=>4|n=>n,fun|n=>n⟩
theorem Tryz.keys133:Go.Proofs.SlLaysZ.n7 prog Tryz.keys133_ren:={
 mixed:=by kernel_rfl
 f7:=⟨Tryz.f133.name,by decide,func133.trans (congrArg some (by kernel_rfl))⟩
 f10:=⟨Tryz.f185.name,by decide,func185.trans (congrArg some (by kernel_rfl))⟩
 t0:=underlying0
 a0:=isAgg0
 z0:=sizeOf0
 v0:=zeroValue0
 t4:=underlying4
 a4:=isAgg4
 z4:=sizeOf4
 v4:=zeroValue4
 t23:=underlying152
 a23:=isAgg152
 z23:=sizeOf152
 v23:=zeroValue152
 t26:=underlying9
 a26:=isAgg9
 z26:=sizeOf9
 v26:=zeroValue9
 t27:=underlying209
 a27:=isAgg209
 z27:=sizeOf209
 v27:=zeroValue209
 t28:=underlying210
 a28:=isAgg210
 z28:=sizeOf210
 v28:=zeroValue210
 t33:=underlying127
 a33:=isAgg127
 z33:=sizeOf127
 v33:=zeroValue127}
def Tryz.sorted132_ren:Go.Shelf.Ren:=⟨fun|6=>132|8=>183|9=>184|11=>218|13=>208|12=>219|23=>248|24=>249|14=>259|15=>260|16=>261|17=>262|18=>263|19=>264|20=>265|21=>266|22=>267|25=>283|26=>276|27=>277|28=>284|29=>285|30=>286|31=>299|n=>n,fun|26=>9|28=>210|24=>125|0=>0|3=>3|37=>223|48=>246|50=>222|4=>4|40=>335|39=>334|45=>339|5=>5|9=>9|51=>363|55=>178|57=>377|58=>378|33=>127|n=>n,fun|n=>n⟩
theorem Tryz.sorted132:Go.Proofs.SlLaysZ.n6 prog Tryz.sorted132_ren:={
 mixed:=by kernel_rfl
 f6:=⟨Tryz.f132.name,by decide,func132.trans (congrArg some (by kernel_rfl))⟩
 f8:=⟨Tryz.f183.name,by decide,func183.trans (congrArg some (by kernel_rfl))⟩
 f11:=⟨Tryz.f218.name,by decide,func218.trans (congrArg some (by kernel_rfl))⟩
 t0:=underlying0
 a0:=isAgg0
 z0:=sizeOf0
 v0:=zeroValue0
 t24:=underlying125
 a24:=isAgg125
 z24:=sizeOf125
 v24:=zeroValue125
 t26:=underlying9
 a26:=isAgg9
 z26:=sizeOf9
 v26:=zeroValue9
 t28:=underlying210
 a28:=isAgg210
 z28:=sizeOf210
 v28:=zeroValue210
 i26:=by kernel_rfl}
def Tryz.sort184_ren:Go.Shelf.Ren:=⟨fun|6=>184|8=>208|9=>219|19=>248|20=>249|21=>259|22=>260|23=>261|24=>262|25=>263|26=>264|27=>265|28=>266|29=>267|36=>283|31=>276|32=>277|37=>284|38=>285|39=>286|41=>299|n=>n,fun|27=>125|29=>9|3=>3|32=>223|26=>125|0=>0|44=>246|46=>222|4=>4|36=>335|35=>334|41=>339|5=>5|9=>9|53=>363|57=>178|63=>377|64=>378|n=>n,fun|n=>n⟩
theorem Tryz.sort184:Go.Proofs.SlLaysM.n6 prog Tryz.sort184_ren:={
 mixed:=by kernel_rfl
 f6:=⟨Tryz.f184.name,by decide,func184.trans (congrArg some (by kernel_rfl))⟩
 f8:=func208.trans (congrArg some (by kernel_rfl))
 f9:=⟨Tryz.f219.name,by decide,func219.trans (congrArg some (by kernel_rfl))⟩
 f19:=func248.trans (congrArg some (by kernel_rfl))
 f20:=func249.trans (congrArg some (by kernel_rfl))
 f21:=⟨Tryz.f259.name,by decide,func259.trans (congrArg some (by kernel_rfl))⟩
 f22:=⟨Tryz.f260.name,by decide,func260.trans (congrArg some (by kernel_rfl))⟩
 f23:=⟨Tryz.f261.name,by decide,func261.trans (congrArg some (by kernel_rfl))⟩
 f24:=⟨Tryz.f262.name,by decide,func262.trans (congrArg some (by kernel_rfl))⟩
 f25:=⟨Tryz.f263.name,by decide,func263.trans (congrArg some (by kernel_rfl))⟩
 f26:=⟨Tryz.f264.name,by decide,func264.trans (congrArg some (by kernel_rfl))⟩
 f27:=⟨Tryz.f265.name,by decide,func265.trans (congrArg some (by kernel_rfl))⟩
 f28:=⟨Tryz.f266.name,by decide,func266.trans (congrArg some (by kernel_rfl))⟩
 f29:=⟨Tryz.f267.name,by decide,func267.trans (congrArg some (by kernel_rfl))⟩
 f31:=func276.trans (congrArg some (by kernel_rfl))
 f32:=func277.trans (congrArg some (by kernel_rfl))
 f36:=⟨Tryz.f283.name,by decide,func283.trans (congrArg some (by kernel_rfl))⟩
 f37:=⟨Tryz.f284.name,by decide,func284.trans (congrArg some (by kernel_rfl))⟩
 f38:=⟨Tryz.f285.name,by decide,func285.trans (congrArg some (by kernel_rfl))⟩
 f39:=⟨Tryz.f286.name,by decide,func286.trans (congrArg some (by kernel_rfl))⟩
 f41:=⟨Tryz.f299.name,by decide,func299.trans (congrArg some (by kernel_rfl))⟩
 t0:=underlying0
 a0:=isAgg0
 z0:=sizeOf0
 v0:=zeroValue0
 t3:=underlying3
 a3:=isAgg3
 z3:=sizeOf3
 v3:=zeroValue3
 t4:=underlying4
 a4:=isAgg4
 z4:=sizeOf4
 v4:=zeroValue4
 t5:=underlying5
 a5:=isAgg5
 z5:=sizeOf5
 v5:=zeroValue5
 t9:=underlying9
 a9:=isAgg9
 z9:=sizeOf9
 v9:=zeroValue9
 t26:=underlying125
 a26:=isAgg125
 z26:=sizeOf125
 v26:=zeroValue125
 t27:=underlying125
 a27:=isAgg125
 z27:=sizeOf125
 v27:=zeroValue125
 t29:=underlying9
 a29:=isAgg9
 z29:=sizeOf9
 v29:=zeroValue9
 t32:=underlying223
 a32:=isAgg223
 z32:=sizeOf223
 v32:=zeroValue223
 t35:=underlying334
 a35:=isAgg334
 z35:=sizeOf334
 v35:=zeroValue334
 t36:=underlying335
 a36:=isAgg335
 z36:=sizeOf335
 v36:=zeroValue335
 t41:=underlying339
 a41:=isAgg339
 z41:=sizeOf339
 v41:=zeroValue339
 t44:=underlying246
 a44:=isAgg246
 z44:=sizeOf246
 v44:=zeroValue246
 t46:=underlying222
 a46:=isAgg222
 z46:=sizeOf222
 v46:=zeroValue222
 t53:=underlying363
 a53:=isAgg363
 z53:=sizeOf363
 v53:=zeroValue363
 t57:=underlying178
 a57:=isAgg178
 z57:=sizeOf178
 v57:=zeroValue178
 t63:=underlying377
 a63:=isAgg377
 z63:=sizeOf377
 v63:=zeroValue377
 t64:=underlying378
 a64:=isAgg378
 z64:=sizeOf378
 v64:=zeroValue378}
def Tryz.keys205_ren:Go.Shelf.Ren:=⟨fun|7=>205|10=>238|n=>n,fun|23=>239|26=>9|3=>46|28=>210|0=>0|27=>209|33=>127|4=>4|n=>n,fun|n=>n⟩
theorem Tryz.keys205:Go.Proofs.SlLaysZ.n7 prog Tryz.keys205_ren:={
 mixed:=by kernel_rfl
 f7:=⟨Tryz.f205.name,by decide,func205.trans (congrArg some (by kernel_rfl))⟩
 f10:=⟨Tryz.f238.name,by decide,func238.trans (congrArg some (by kernel_rfl))⟩
 t0:=underlying0
 a0:=isAgg0
 z0:=sizeOf0
 v0:=zeroValue0
 t4:=underlying4
 a4:=isAgg4
 z4:=sizeOf4
 v4:=zeroValue4
 t23:=underlying239
 a23:=isAgg239
 z23:=sizeOf239
 v23:=zeroValue239
 t26:=underlying9
 a26:=isAgg9
 z26:=sizeOf9
 v26:=zeroValue9
 t27:=underlying209
 a27:=isAgg209
 z27:=sizeOf209
 v27:=zeroValue209
 t28:=underlying210
 a28:=isAgg210
 z28:=sizeOf210
 v28:=zeroValue210
 t33:=underlying127
 a33:=isAgg127
 z33:=sizeOf127
 v33:=zeroValue127}
def Tryz.keys221_ren:Go.Shelf.Ren:=⟨fun|7=>221|10=>268|n=>n,fun|23=>69|26=>9|3=>108|28=>210|0=>0|27=>209|33=>127|4=>4|n=>n,fun|n=>n⟩
theorem Tryz.keys221:Go.Proofs.SlLaysZ.n7 prog Tryz.keys221_ren:={
 mixed:=by kernel_rfl
 f7:=⟨Tryz.f221.name,by decide,func221.trans (congrArg some (by kernel_rfl))⟩
 f10:=⟨Tryz.f268.name,by decide,func268.trans (congrArg some (by kernel_rfl))⟩
 t0:=underlying0
 a0:=isAgg0
 z0:=sizeOf0
 v0:=zeroValue0
 t4:=underlying4
 a4:=isAgg4
 z4:=sizeOf4
 v4:=zeroValue4
 t23:=underlying69
 a23:=isAgg69
 z23:=sizeOf69
 v23:=zeroValue69
 t26:=underlying9
 a26:=isAgg9
 z26:=sizeOf9
 v26:=zeroValue9
 t27:=underlying209
 a27:=isAgg209
 z27:=sizeOf209
 v27:=zeroValue209
 t28:=underlying210
 a28:=isAgg210
 z28:=sizeOf210
 v28:=zeroValue210
 t33:=underlying127
 a33:=isAgg127
 z33:=sizeOf127
 v33:=zeroValue127}
open Go.RowKit Go.Maps Go.Sort Go.Shelf

theorem Tryz.sorts132 (m:Nat):AnyZ.SortsIn prog Tryz.sorted132_ren Fence.wide m :=
 ⟨fun blk off cap ss W hH hblk hsz=>callsIn_wide.2 (AnyM.slices_Sort_string Tryz.sort184 blk off cap ss W hH hblk hsz),
  fun p cap W=>callsIn_wide.2 (AnyM.slices_Sort_string_none Tryz.sort184 p cap W)⟩

theorem Tryz.maps_Keys_133 (mb:Option Nat)(W:World):CallsIn Fence.wide 5 prog 133 #[.map mb] W fun e w'=>e=.returned (.func (.func 185) #[] #[.pointer (some ⟨W.heap.size,0,none⟩)])∧w'=W.alloc (.cells #[.map mb] 152) :=
 AnyZ.keys_in Tryz.keys133 Fence.wide 5 trivial rfl mb W

theorem Tryz.slices_Sorted_keys_132_133 {H:Type}(b nn:Nat)(D0:DataW H)(R:Value→Option (DataW H×List MemPlace))(w:World)(hown:w.ownsMap prog 9 R b nn D0)(hmax:Maps.size D0≤maxLen)(hbytes:Maps.size D0*16≤140737488355328) :
  CallsIn Fence.wide 5 prog 132 #[.func (.func 185) #[] #[.pointer (some ⟨w.heap.size,0,none⟩)]] (w.alloc (.cells #[.map (some b)] 152)) fun e w'=>∃(v:Value) (ss:List (List UInt8)),e=.returned v∧ss.Perm (strKeys D0) ∧
   w'.ownsRow (w.alloc (.cells #[.map (some b)] 152)).heap.size 9 1 v ss.length ((ss.mergeSort (fun x y=>decide (x≤y))).map encStr)∧(v=.slice none 0 0↔ss=[])∧Below (w.alloc (.cells #[.map (some b)] 152)).heap.size (w.alloc (.cells #[.map (some b)] 152)) w':=by
 have hbl:=hown.lt
 have hseq:SeqGives Fence.wide 2 prog 185 #[.pointer (some ⟨w.heap.size,0,none⟩)] encStr (fun ss=>ss.Perm (strKeys D0)) (Maps.size D0) (w.alloc (.cells #[.map (some b)] 152)) :=
  AnyZ.keys_gives (ρ:=Tryz.keys133_ren) {Tryz.keys133 with} Fence.wide _ trivial rfl (by omega) w.heap.size b nn D0 _ (by simp) (by simp) (by
   obtain⟨es,clock,hb,Ft,hs,hD⟩:=hown
   exact⟨es,clock,(Below.heap_alloc _ _ b hbl).trans hb,Ft,hs,hD⟩)
 exact AnyZ.sorted_in Tryz.sorted132 Fence.wide 5 trivial trivial trivial trivial rfl (by omega) (Tryz.sorts132 _) (enters_of func184 (by kernel_rfl) rfl) 185 #[.pointer (some ⟨w.heap.size,0,none⟩)] trivial (enters_of func185 (by kernel_rfl) rfl) _ _ hmax hbytes _ hseq

theorem Tryz.maps_Keys_205 (mb:Option Nat)(W:World):CallsIn Fence.wide 5 prog 205 #[.map mb] W fun e w'=>e=.returned (.func (.func 238) #[] #[.pointer (some ⟨W.heap.size,0,none⟩)])∧w'=W.alloc (.cells #[.map mb] 239) :=
 AnyZ.keys_in Tryz.keys205 Fence.wide 5 trivial rfl mb W

theorem Tryz.slices_Sorted_keys_132_205 {H:Type}(b nn:Nat)(D0:DataW H)(R:Value→Option (DataW H×List MemPlace))(w:World)(hown:w.ownsMap prog 9 R b nn D0)(hmax:Maps.size D0≤maxLen)(hbytes:Maps.size D0*16≤140737488355328) :
  CallsIn Fence.wide 5 prog 132 #[.func (.func 238) #[] #[.pointer (some ⟨w.heap.size,0,none⟩)]] (w.alloc (.cells #[.map (some b)] 239)) fun e w'=>∃(v:Value) (ss:List (List UInt8)),e=.returned v∧ss.Perm (strKeys D0) ∧
   w'.ownsRow (w.alloc (.cells #[.map (some b)] 239)).heap.size 9 1 v ss.length ((ss.mergeSort (fun x y=>decide (x≤y))).map encStr)∧(v=.slice none 0 0↔ss=[])∧Below (w.alloc (.cells #[.map (some b)] 239)).heap.size (w.alloc (.cells #[.map (some b)] 239)) w':=by
 have hbl:=hown.lt
 have hseq:SeqGives Fence.wide 2 prog 238 #[.pointer (some ⟨w.heap.size,0,none⟩)] encStr (fun ss=>ss.Perm (strKeys D0)) (Maps.size D0) (w.alloc (.cells #[.map (some b)] 239)) :=
  AnyZ.keys_gives (ρ:=Tryz.keys205_ren) {Tryz.keys205 with} Fence.wide _ trivial rfl (by omega) w.heap.size b nn D0 _ (by simp) (by simp) (by
   obtain⟨es,clock,hb,Ft,hs,hD⟩:=hown
   exact⟨es,clock,(Below.heap_alloc _ _ b hbl).trans hb,Ft,hs,hD⟩)
 exact AnyZ.sorted_in Tryz.sorted132 Fence.wide 5 trivial trivial trivial trivial rfl (by omega) (Tryz.sorts132 _) (enters_of func184 (by kernel_rfl) rfl) 238 #[.pointer (some ⟨w.heap.size,0,none⟩)] trivial (enters_of func238 (by kernel_rfl) rfl) _ _ hmax hbytes _ hseq

theorem Tryz.maps_Keys_221 (mb:Option Nat)(W:World):CallsIn Fence.wide 5 prog 221 #[.map mb] W fun e w'=>e=.returned (.func (.func 268) #[] #[.pointer (some ⟨W.heap.size,0,none⟩)])∧w'=W.alloc (.cells #[.map mb] 69) :=
 AnyZ.keys_in Tryz.keys221 Fence.wide 5 trivial rfl mb W

theorem Tryz.slices_Sorted_keys_132_221 {H:Type}(b nn:Nat)(D0:DataW H)(R:Value→Option (DataW H×List MemPlace))(w:World)(hown:w.ownsMap prog 9 R b nn D0)(hmax:Maps.size D0≤maxLen)(hbytes:Maps.size D0*16≤140737488355328) :
  CallsIn Fence.wide 5 prog 132 #[.func (.func 268) #[] #[.pointer (some ⟨w.heap.size,0,none⟩)]] (w.alloc (.cells #[.map (some b)] 69)) fun e w'=>∃(v:Value) (ss:List (List UInt8)),e=.returned v∧ss.Perm (strKeys D0) ∧
   w'.ownsRow (w.alloc (.cells #[.map (some b)] 69)).heap.size 9 1 v ss.length ((ss.mergeSort (fun x y=>decide (x≤y))).map encStr)∧(v=.slice none 0 0↔ss=[])∧Below (w.alloc (.cells #[.map (some b)] 69)).heap.size (w.alloc (.cells #[.map (some b)] 69)) w':=by
 have hbl:=hown.lt
 have hseq:SeqGives Fence.wide 2 prog 268 #[.pointer (some ⟨w.heap.size,0,none⟩)] encStr (fun ss=>ss.Perm (strKeys D0)) (Maps.size D0) (w.alloc (.cells #[.map (some b)] 69)) :=
  AnyZ.keys_gives (ρ:=Tryz.keys221_ren) {Tryz.keys221 with} Fence.wide _ trivial rfl (by omega) w.heap.size b nn D0 _ (by simp) (by simp) (by
   obtain⟨es,clock,hb,Ft,hs,hD⟩:=hown
   exact⟨es,clock,(Below.heap_alloc _ _ b hbl).trans hb,Ft,hs,hD⟩)
 exact AnyZ.sorted_in Tryz.sorted132 Fence.wide 5 trivial trivial trivial trivial rfl (by omega) (Tryz.sorts132 _) (enters_of func184 (by kernel_rfl) rfl) 268 #[.pointer (some ⟨w.heap.size,0,none⟩)] trivial (enters_of func268 (by kernel_rfl) rfl) _ _ hmax hbytes _ hseq

end Go.Proofs

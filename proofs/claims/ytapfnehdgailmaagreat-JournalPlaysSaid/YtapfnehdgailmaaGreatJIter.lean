/- The contracts of slices.Sorted of maps.Keys at this program, in plain words; written by the programs of the kit (lay-iter, lay-plain). -/
import Derived.Shelf.SlIter.Nil
import Derived.Shelf.SortM.Plain
import Derived.Shelf.SortM.SortNone
import Derived.Ground.GgzProg
import Derived.Ground.SlgmProg
import Derived.Test.YtapfnehdgailmaaGreatProg
set_option maxHeartbeats 1000000
set_option maxRecDepth 10000
namespace Go.Proofs
open Go.Shelf Tryz
def Tryz.keys188_ren:Go.Shelf.Ren:=⟨fun|7=>188|10=>204|n=>n,fun|23=>113|26=>9|3=>121|28=>228|0=>0|27=>227|33=>192|4=>4|n=>n,fun|n=>n⟩
theorem Tryz.keys188:Go.Proofs.SlLaysZ.n7 prog Tryz.keys188_ren:={
 mixed:=by kernel_rfl
 f7:=⟨Tryz.f188.name,by decide,func188.trans (congrArg some (by kernel_rfl))⟩
 f10:=⟨Tryz.f204.name,by decide,func204.trans (congrArg some (by kernel_rfl))⟩
 t0:=underlying0
 a0:=isAgg0
 z0:=sizeOf0
 v0:=zeroValue0
 t4:=underlying4
 a4:=isAgg4
 z4:=sizeOf4
 v4:=zeroValue4
 t23:=underlying113
 a23:=isAgg113
 z23:=sizeOf113
 v23:=zeroValue113
 t26:=underlying9
 a26:=isAgg9
 z26:=sizeOf9
 v26:=zeroValue9
 t27:=underlying227
 a27:=isAgg227
 z27:=sizeOf227
 v27:=zeroValue227
 t28:=underlying228
 a28:=isAgg228
 z28:=sizeOf228
 v28:=zeroValue228
 t33:=underlying192
 a33:=isAgg192
 z33:=sizeOf192
 v33:=zeroValue192}
def Tryz.sorted187_ren:Go.Shelf.Ren:=⟨fun|6=>187|8=>202|9=>203|11=>208|13=>210|12=>209|23=>220|24=>221|14=>211|15=>212|16=>213|17=>214|18=>215|19=>216|20=>217|21=>218|22=>219|25=>222|26=>223|27=>224|28=>225|29=>226|30=>227|31=>228|n=>n,fun|26=>9|28=>228|24=>141|0=>0|3=>3|37=>58|48=>222|50=>211|4=>4|40=>250|39=>249|45=>68|5=>5|9=>9|51=>258|55=>204|57=>263|58=>54|33=>192|n=>n,fun|n=>n⟩
theorem Tryz.sorted187:Go.Proofs.SlLaysZ.n6 prog Tryz.sorted187_ren:={
 mixed:=by kernel_rfl
 f6:=⟨Tryz.f187.name,by decide,func187.trans (congrArg some (by kernel_rfl))⟩
 f8:=⟨Tryz.f202.name,by decide,func202.trans (congrArg some (by kernel_rfl))⟩
 f11:=⟨Tryz.f208.name,by decide,func208.trans (congrArg some (by kernel_rfl))⟩
 t0:=underlying0
 a0:=isAgg0
 z0:=sizeOf0
 v0:=zeroValue0
 t24:=underlying141
 a24:=isAgg141
 z24:=sizeOf141
 v24:=zeroValue141
 t26:=underlying9
 a26:=isAgg9
 z26:=sizeOf9
 v26:=zeroValue9
 t28:=underlying228
 a28:=isAgg228
 z28:=sizeOf228
 v28:=zeroValue228
 i26:=by kernel_rfl}
def Tryz.sort203_ren:Go.Shelf.Ren:=⟨fun|6=>203|8=>210|9=>209|19=>220|20=>221|21=>211|22=>212|23=>213|24=>214|25=>215|26=>216|27=>217|28=>218|29=>219|36=>222|31=>223|32=>224|37=>225|38=>226|39=>227|41=>228|n=>n,fun|27=>141|29=>9|3=>3|32=>58|26=>141|0=>0|44=>222|46=>211|4=>4|36=>250|35=>249|41=>68|5=>5|9=>9|53=>258|57=>204|63=>263|64=>54|n=>n,fun|n=>n⟩
theorem Tryz.sort203:Go.Proofs.SlLaysM.n6 prog Tryz.sort203_ren:={
 mixed:=by kernel_rfl
 f6:=⟨Tryz.f203.name,by decide,func203.trans (congrArg some (by kernel_rfl))⟩
 f8:=func210.trans (congrArg some (by kernel_rfl))
 f9:=⟨Tryz.f209.name,by decide,func209.trans (congrArg some (by kernel_rfl))⟩
 f19:=func220.trans (congrArg some (by kernel_rfl))
 f20:=func221.trans (congrArg some (by kernel_rfl))
 f21:=⟨Tryz.f211.name,by decide,func211.trans (congrArg some (by kernel_rfl))⟩
 f22:=⟨Tryz.f212.name,by decide,func212.trans (congrArg some (by kernel_rfl))⟩
 f23:=⟨Tryz.f213.name,by decide,func213.trans (congrArg some (by kernel_rfl))⟩
 f24:=⟨Tryz.f214.name,by decide,func214.trans (congrArg some (by kernel_rfl))⟩
 f25:=⟨Tryz.f215.name,by decide,func215.trans (congrArg some (by kernel_rfl))⟩
 f26:=⟨Tryz.f216.name,by decide,func216.trans (congrArg some (by kernel_rfl))⟩
 f27:=⟨Tryz.f217.name,by decide,func217.trans (congrArg some (by kernel_rfl))⟩
 f28:=⟨Tryz.f218.name,by decide,func218.trans (congrArg some (by kernel_rfl))⟩
 f29:=⟨Tryz.f219.name,by decide,func219.trans (congrArg some (by kernel_rfl))⟩
 f31:=func223.trans (congrArg some (by kernel_rfl))
 f32:=func224.trans (congrArg some (by kernel_rfl))
 f36:=⟨Tryz.f222.name,by decide,func222.trans (congrArg some (by kernel_rfl))⟩
 f37:=⟨Tryz.f225.name,by decide,func225.trans (congrArg some (by kernel_rfl))⟩
 f38:=⟨Tryz.f226.name,by decide,func226.trans (congrArg some (by kernel_rfl))⟩
 f39:=⟨Tryz.f227.name,by decide,func227.trans (congrArg some (by kernel_rfl))⟩
 f41:=⟨Tryz.f228.name,by decide,func228.trans (congrArg some (by kernel_rfl))⟩
 t0:=underlying0
 a0:=isAgg0
 z0:=sizeOf0
 v0:=zeroValue0
 t3:=underlying3
 a3:=isAgg3
 z3:=sizeOf3
 v3:=zeroValue3
 t4:=underlying4
 a4:=isAgg4
 z4:=sizeOf4
 v4:=zeroValue4
 t5:=underlying5
 a5:=isAgg5
 z5:=sizeOf5
 v5:=zeroValue5
 t9:=underlying9
 a9:=isAgg9
 z9:=sizeOf9
 v9:=zeroValue9
 t26:=underlying141
 a26:=isAgg141
 z26:=sizeOf141
 v26:=zeroValue141
 t27:=underlying141
 a27:=isAgg141
 z27:=sizeOf141
 v27:=zeroValue141
 t29:=underlying9
 a29:=isAgg9
 z29:=sizeOf9
 v29:=zeroValue9
 t32:=underlying58
 a32:=isAgg58
 z32:=sizeOf58
 v32:=zeroValue58
 t35:=underlying249
 a35:=isAgg249
 z35:=sizeOf249
 v35:=zeroValue249
 t36:=underlying250
 a36:=isAgg250
 z36:=sizeOf250
 v36:=zeroValue250
 t41:=underlying68
 a41:=isAgg68
 z41:=sizeOf68
 v41:=zeroValue68
 t44:=underlying222
 a44:=isAgg222
 z44:=sizeOf222
 v44:=zeroValue222
 t46:=underlying211
 a46:=isAgg211
 z46:=sizeOf211
 v46:=zeroValue211
 t53:=underlying258
 a53:=isAgg258
 z53:=sizeOf258
 v53:=zeroValue258
 t57:=underlying204
 a57:=isAgg204
 z57:=sizeOf204
 v57:=zeroValue204
 t63:=underlying263
 a63:=isAgg263
 z63:=sizeOf263
 v63:=zeroValue263
 t64:=underlying54
 a64:=isAgg54
 z64:=sizeOf54
 v64:=zeroValue54}
open Go.RowKit Go.Maps Go.Sort Go.Shelf

theorem Tryz.sorts187 (m:Nat):AnyZ.SortsIn prog Tryz.sorted187_ren Fence.wide m :=
 ⟨fun blk off cap ss W hH hblk hsz=>callsIn_wide.2 (AnyM.slices_Sort_string Tryz.sort203 blk off cap ss W hH hblk hsz),
  fun p cap W=>callsIn_wide.2 (AnyM.slices_Sort_string_none Tryz.sort203 p cap W)⟩

theorem Tryz.maps_Keys_188 (mb:Option Nat)(W:World):CallsIn Fence.wide 5 prog 188 #[.map mb] W fun e w'=>e=.returned (.func (.func 204) #[] #[.pointer (some ⟨W.heap.size,0,none⟩)])∧w'=W.alloc (.cells #[.map mb] 113) :=
 AnyZ.keys_in Tryz.keys188 Fence.wide 5 trivial rfl mb W

theorem Tryz.slices_Sorted_keys_187_188 {H:Type}(b nn:Nat)(D0:DataW H)(R:Value→Option (DataW H×List MemPlace))(w:World)(hown:w.ownsMap prog 9 R b nn D0)(hmax:Maps.size D0≤maxLen)(hbytes:Maps.size D0*16≤140737488355328) :
  CallsIn Fence.wide 5 prog 187 #[.func (.func 204) #[] #[.pointer (some ⟨w.heap.size,0,none⟩)]] (w.alloc (.cells #[.map (some b)] 113)) fun e w'=>∃(v:Value) (ss:List (List UInt8)),e=.returned v∧ss.Perm (strKeys D0) ∧
   w'.ownsRow (w.alloc (.cells #[.map (some b)] 113)).heap.size 9 1 v ss.length ((ss.mergeSort (fun x y=>decide (x≤y))).map encStr)∧(v=.slice none 0 0↔ss=[])∧Below (w.alloc (.cells #[.map (some b)] 113)).heap.size (w.alloc (.cells #[.map (some b)] 113)) w':=by
 have hbl:=hown.lt
 have hseq:SeqGives Fence.wide 2 prog 204 #[.pointer (some ⟨w.heap.size,0,none⟩)] encStr (fun ss=>ss.Perm (strKeys D0)) (Maps.size D0) (w.alloc (.cells #[.map (some b)] 113)) :=
  AnyZ.keys_gives (ρ:=Tryz.keys188_ren) {Tryz.keys188 with} Fence.wide _ trivial rfl (by omega) w.heap.size b nn D0 _ (by simp) (by simp) (by
   obtain⟨es,clock,hb,Ft,hs,hD⟩:=hown
   exact⟨es,clock,(Below.heap_alloc _ _ b hbl).trans hb,Ft,hs,hD⟩)
 exact AnyZ.sorted_in Tryz.sorted187 Fence.wide 5 trivial trivial trivial trivial rfl (by omega) (Tryz.sorts187 _) (enters_of func203 (by kernel_rfl) rfl) 204 #[.pointer (some ⟨w.heap.size,0,none⟩)] trivial (enters_of func204 (by kernel_rfl) rfl) _ _ hmax hbytes _ hseq

end Go.Proofs

/-
  DERIVED: THE SHELF's CONTRACTS AT THIS DUMP, IN PLAIN WORDS (tools/lay-plain.mjs out of 'TryzShelf.lean', which tools/lay-shelf.mjs wrote): THE SAME DECLARATIONS UNDER THE SAME NAMES: 'import', 'namespace', 'open', 'def', 'theorem' AND NOTHING ELSE: no command of the shelf's: FOR A HAND-IN. Each laying: the table of numbers ('.._ren') and one theorem, a field a fact of the dump's own or the kernel's comparison; each contract: ONE APPLICATION.
-/
import Derived.Shelf.Small.Bits
import Derived.Shelf.Small.Wraps
import Derived.Shelf.Strconv.Itoa0
import Derived.Shelf.Strconv.Itoa1
import Derived.Shelf.LaysM
import Derived.Shelf.Strconv.Itoa2
import Derived.Shelf.Strconv.Itoa3
import Derived.Shelf.Sort.Plain
import Derived.Shelf.Slices.Turned
import Derived.Shelf.Bytes.SlSearch0
import Derived.Ground.SlbCloneProg
import Derived.Shelf.Bytes.SlClone
import Derived.Ground.SlbNamesProg
import Derived.Shelf.Bytes.SlJoin
import Derived.Shelf.Bytes.SlEqualAll
import Derived.Shelf.Bytes.Small
import Derived.Test.YtmcanphlgkolcaaGreatDoorProg
set_option maxHeartbeats 1000000
set_option maxRecDepth 10000
namespace Go.Proofs
open Go.Shelf Tryz
def Tryz.lays125_ren:Go.Shelf.Ren:=⟨fun|125=>208|128=>248|129=>249|n=>n,fun|46=>223|3=>3|51=>246|53=>222|4=>4|5=>5|9=>9|n=>n,fun|n=>n⟩
theorem Tryz.lays125:Go.Proofs.Lays.n125 prog Tryz.lays125_ren:={
 mixed:=by kernel_rfl
 f125:=func208.trans (congrArg some (by kernel_rfl))
 f128:=func248.trans (congrArg some (by kernel_rfl))
 f129:=func249.trans (congrArg some (by kernel_rfl))
 t3:=underlying3
 a3:=isAgg3
 z3:=sizeOf3
 v3:=zeroValue3
 t4:=underlying4
 a4:=isAgg4
 z4:=sizeOf4
 v4:=zeroValue4
 t5:=underlying5
 a5:=isAgg5
 z5:=sizeOf5
 v5:=zeroValue5
 t9:=underlying9
 a9:=isAgg9
 z9:=sizeOf9
 v9:=zeroValue9
 t46:=underlying223
 a46:=isAgg223
 z46:=sizeOf223
 v46:=zeroValue223
 t51:=underlying246
 a51:=isAgg246
 z51:=sizeOf246
 v51:=zeroValue246
 t53:=underlying222
 a53:=isAgg222
 z53:=sizeOf222
 v53:=zeroValue222}
theorem Tryz.bits_Len (x:Int)(w:World)(h0:0≤x)(h1:x≤18446744073709551615) :
  Calls prog 208 #[.int .u64 x] w fun e w'=>e=.returned (.int .i64 (Lib.bitLen x.toNat))∧w'=w:=Any.bits_Len Tryz.lays125 x w h0 h1
def Tryz.lays171_ren:Go.Shelf.Ren:=⟨fun|171=>76|243=>141|246=>191|283=>223|284=>224|285=>225|286=>226|129=>249|317=>269|318=>270|319=>271|320=>272|337=>287|338=>288|n=>n,fun|3=>3|9=>9|2=>2|4=>4|171=>316|0=>0|53=>222|37=>39|5=>5|173=>319|212=>358|51=>246|20=>20|213=>359|46=>223|232=>382|233=>383|n=>n,fun|17=>0|18=>2|19=>3|n=>n⟩
theorem Tryz.lays171:Go.Proofs.Lays.n171 prog Tryz.lays171_ren:={
 mixed:=by kernel_rfl
 f129:=func249.trans (congrArg some (by kernel_rfl))
 f171:=func76.trans (congrArg some (by kernel_rfl))
 f243:=func141.trans (congrArg some (by kernel_rfl))
 f246:=func191.trans (congrArg some (by kernel_rfl))
 f283:=func223.trans (congrArg some (by kernel_rfl))
 f284:=func224.trans (congrArg some (by kernel_rfl))
 f285:=func225.trans (congrArg some (by kernel_rfl))
 f286:=func226.trans (congrArg some (by kernel_rfl))
 f317:=func269.trans (congrArg some (by kernel_rfl))
 f318:=func270.trans (congrArg some (by kernel_rfl))
 f319:=func271.trans (congrArg some (by kernel_rfl))
 f320:=func272.trans (congrArg some (by kernel_rfl))
 f337:=func287.trans (congrArg some (by kernel_rfl))
 f338:=func288.trans (congrArg some (by kernel_rfl))
 t0:=underlying0
 a0:=isAgg0
 z0:=sizeOf0
 v0:=zeroValue0
 t2:=underlying2
 a2:=isAgg2
 z2:=sizeOf2
 v2:=zeroValue2
 t3:=underlying3
 a3:=isAgg3
 z3:=sizeOf3
 v3:=zeroValue3
 t4:=underlying4
 a4:=isAgg4
 z4:=sizeOf4
 v4:=zeroValue4
 t5:=underlying5
 a5:=isAgg5
 z5:=sizeOf5
 v5:=zeroValue5
 t9:=underlying9
 a9:=isAgg9
 z9:=sizeOf9
 v9:=zeroValue9
 t20:=underlying20
 a20:=isAgg20
 z20:=sizeOf20
 v20:=zeroValue20
 t37:=underlying39
 a37:=isAgg39
 z37:=sizeOf39
 v37:=zeroValue39
 t46:=underlying223
 a46:=isAgg223
 z46:=sizeOf223
 v46:=zeroValue223
 t51:=underlying246
 a51:=isAgg246
 z51:=sizeOf246
 v51:=zeroValue246
 t53:=underlying222
 a53:=isAgg222
 z53:=sizeOf222
 v53:=zeroValue222
 t171:=underlying316
 a171:=isAgg316
 z171:=sizeOf316
 v171:=zeroValue316
 t173:=underlying319
 a173:=isAgg319
 z173:=sizeOf319
 v173:=zeroValue319
 t212:=underlying358
 a212:=isAgg358
 z212:=sizeOf358
 v212:=zeroValue358
 t213:=underlying359
 a213:=isAgg359
 z213:=sizeOf359
 t232:=underlying382
 a232:=isAgg382
 z232:=sizeOf382
 v232:=zeroValue382
 t233:=underlying383
 a233:=isAgg383
 z233:=sizeOf383
 v233:=zeroValue383
 g17:=by kernel_rfl
 g18:=by kernel_rfl
 g19:=by kernel_rfl}
open Go.RowKit Go.Sort Go.Lib in
theorem Tryz.strconv_Itoa_small (i:Nat)(hi:i<100)(w:World) :
  Calls prog 76 #[.int .i64 i] w fun e w'=>e=.returned (.string ⟨(Lib.decDigits i).toArray⟩)∧w'=w:=Any.strconv_Itoa_small Tryz.lays171 i hi w
def Tryz.lays189_ren:Go.Shelf.Ren:=⟨fun|189=>167|125=>208|257=>207|128=>248|129=>249|294=>239|295=>240|296=>241|297=>242|298=>243|299=>244|216=>245|300=>246|301=>247|328=>275|329=>276|330=>277|331=>278|332=>279|215=>212|343=>297|n=>n,fun|28=>176|3=>3|46=>223|0=>0|51=>246|53=>222|4=>4|183=>335|182=>334|131=>339|5=>5|9=>9|218=>363|222=>178|228=>377|229=>378|n=>n,fun|n=>n⟩
theorem Tryz.lays189:Go.Proofs.Lays.n189 prog Tryz.lays189_ren:={
 mixed:=by kernel_rfl
 f125:=func208.trans (congrArg some (by kernel_rfl))
 f128:=func248.trans (congrArg some (by kernel_rfl))
 f129:=func249.trans (congrArg some (by kernel_rfl))
 f189:=func167.trans (congrArg some (by kernel_rfl))
 f215:=func212.trans (congrArg some (by kernel_rfl))
 f216:=func245.trans (congrArg some (by kernel_rfl))
 f257:=func207.trans (congrArg some (by kernel_rfl))
 f294:=func239.trans (congrArg some (by kernel_rfl))
 f295:=func240.trans (congrArg some (by kernel_rfl))
 f296:=func241.trans (congrArg some (by kernel_rfl))
 f297:=func242.trans (congrArg some (by kernel_rfl))
 f298:=func243.trans (congrArg some (by kernel_rfl))
 f299:=func244.trans (congrArg some (by kernel_rfl))
 f300:=func246.trans (congrArg some (by kernel_rfl))
 f301:=func247.trans (congrArg some (by kernel_rfl))
 f328:=func275.trans (congrArg some (by kernel_rfl))
 f329:=func276.trans (congrArg some (by kernel_rfl))
 f330:=func277.trans (congrArg some (by kernel_rfl))
 f331:=func278.trans (congrArg some (by kernel_rfl))
 f332:=func279.trans (congrArg some (by kernel_rfl))
 f343:=func297.trans (congrArg some (by kernel_rfl))
 t0:=underlying0
 a0:=isAgg0
 z0:=sizeOf0
 v0:=zeroValue0
 t3:=underlying3
 a3:=isAgg3
 z3:=sizeOf3
 v3:=zeroValue3
 t4:=underlying4
 a4:=isAgg4
 z4:=sizeOf4
 v4:=zeroValue4
 t5:=underlying5
 a5:=isAgg5
 z5:=sizeOf5
 v5:=zeroValue5
 t9:=underlying9
 a9:=isAgg9
 z9:=sizeOf9
 v9:=zeroValue9
 t28:=underlying176
 a28:=isAgg176
 z28:=sizeOf176
 v28:=zeroValue176
 t46:=underlying223
 a46:=isAgg223
 z46:=sizeOf223
 v46:=zeroValue223
 t51:=underlying246
 a51:=isAgg246
 z51:=sizeOf246
 v51:=zeroValue246
 t53:=underlying222
 a53:=isAgg222
 z53:=sizeOf222
 v53:=zeroValue222
 t131:=underlying339
 a131:=isAgg339
 z131:=sizeOf339
 v131:=zeroValue339
 t182:=underlying334
 a182:=isAgg334
 z182:=sizeOf334
 v182:=zeroValue334
 t183:=underlying335
 a183:=isAgg335
 z183:=sizeOf335
 v183:=zeroValue335
 t218:=underlying363
 a218:=isAgg363
 z218:=sizeOf363
 v218:=zeroValue363
 t222:=underlying178
 a222:=isAgg178
 z222:=sizeOf178
 v222:=zeroValue178
 t228:=underlying377
 a228:=isAgg377
 z228:=sizeOf377
 v228:=zeroValue377
 t229:=underlying378
 a229:=isAgg378
 z229:=sizeOf378
 v229:=zeroValue378}
def Tryz.lays190_ren:Go.Shelf.Ren:=⟨fun|190=>184|125=>208|258=>219|128=>248|129=>249|302=>259|303=>260|304=>261|305=>262|306=>263|307=>264|308=>265|309=>266|310=>267|333=>283|329=>276|330=>277|334=>284|335=>285|336=>286|344=>299|n=>n,fun|31=>125|9=>9|3=>3|46=>223|0=>0|51=>246|53=>222|4=>4|183=>335|182=>334|131=>339|5=>5|218=>363|222=>178|228=>377|229=>378|n=>n,fun|n=>n⟩
theorem Tryz.lays190:Go.Proofs.Lays.n190 prog Tryz.lays190_ren:={
 mixed:=by kernel_rfl
 f125:=func208.trans (congrArg some (by kernel_rfl))
 f128:=func248.trans (congrArg some (by kernel_rfl))
 f129:=func249.trans (congrArg some (by kernel_rfl))
 f190:=func184.trans (congrArg some (by kernel_rfl))
 f258:=func219.trans (congrArg some (by kernel_rfl))
 f302:=func259.trans (congrArg some (by kernel_rfl))
 f303:=func260.trans (congrArg some (by kernel_rfl))
 f304:=func261.trans (congrArg some (by kernel_rfl))
 f305:=func262.trans (congrArg some (by kernel_rfl))
 f306:=func263.trans (congrArg some (by kernel_rfl))
 f307:=func264.trans (congrArg some (by kernel_rfl))
 f308:=func265.trans (congrArg some (by kernel_rfl))
 f309:=func266.trans (congrArg some (by kernel_rfl))
 f310:=func267.trans (congrArg some (by kernel_rfl))
 f329:=func276.trans (congrArg some (by kernel_rfl))
 f330:=func277.trans (congrArg some (by kernel_rfl))
 f333:=func283.trans (congrArg some (by kernel_rfl))
 f334:=func284.trans (congrArg some (by kernel_rfl))
 f335:=func285.trans (congrArg some (by kernel_rfl))
 f336:=func286.trans (congrArg some (by kernel_rfl))
 f344:=func299.trans (congrArg some (by kernel_rfl))
 t0:=underlying0
 a0:=isAgg0
 z0:=sizeOf0
 v0:=zeroValue0
 t3:=underlying3
 a3:=isAgg3
 z3:=sizeOf3
 v3:=zeroValue3
 t4:=underlying4
 a4:=isAgg4
 z4:=sizeOf4
 v4:=zeroValue4
 t5:=underlying5
 a5:=isAgg5
 z5:=sizeOf5
 v5:=zeroValue5
 t9:=underlying9
 a9:=isAgg9
 z9:=sizeOf9
 v9:=zeroValue9
 t31:=underlying125
 a31:=isAgg125
 z31:=sizeOf125
 v31:=zeroValue125
 t46:=underlying223
 a46:=isAgg223
 z46:=sizeOf223
 v46:=zeroValue223
 t51:=underlying246
 a51:=isAgg246
 z51:=sizeOf246
 v51:=zeroValue246
 t53:=underlying222
 a53:=isAgg222
 z53:=sizeOf222
 v53:=zeroValue222
 t131:=underlying339
 a131:=isAgg339
 z131:=sizeOf339
 v131:=zeroValue339
 t182:=underlying334
 a182:=isAgg334
 z182:=sizeOf334
 v182:=zeroValue334
 t183:=underlying335
 a183:=isAgg335
 z183:=sizeOf335
 v183:=zeroValue335
 t218:=underlying363
 a218:=isAgg363
 z218:=sizeOf363
 v218:=zeroValue363
 t222:=underlying178
 a222:=isAgg178
 z222:=sizeOf178
 v222:=zeroValue178
 t228:=underlying377
 a228:=isAgg377
 z228:=sizeOf377
 v228:=zeroValue377
 t229:=underlying378
 a229:=isAgg378
 z229:=sizeOf378
 v229:=zeroValue378}
open Go.Sort Go.RowKit in
theorem Tryz.slices_Sort_string (blk off cap:Nat)(ss:List (List UInt8))(w:World)(hH:Holds encStr w blk off ss.toArray)(hblk:blk<w.heap.size)(hsz:ss.length<4611686018427387904) :
  Calls prog 184 #[.slice (some ⟨blk,off,none⟩) ss.length cap] w fun e w' =>
   e=.returned (.tuple #[])∧∃n os,w'=grow (putRow encStr (Sort.ahead w n) blk off (ss.mergeSort fun x y=>decide (x≤y)).toArray) os:=Any.slices_Sort_string Tryz.lays190 blk off cap ss w hH hblk hsz
def Tryz.lays110_ren:Go.Shelf.Ren:=⟨fun|110=>187|109=>220|n=>n,fun|31=>125|9=>9|4=>4|3=>3|0=>0|n=>n,fun|n=>n⟩
theorem Tryz.lays110:Go.Proofs.Lays.n110 prog Tryz.lays110_ren:={
 mixed:=by kernel_rfl
 f109:=func220.trans (congrArg some (by kernel_rfl))
 f110:=func187.trans (congrArg some (by kernel_rfl))
 t0:=underlying0
 a0:=isAgg0
 z0:=sizeOf0
 v0:=zeroValue0
 t3:=underlying3
 a3:=isAgg3
 z3:=sizeOf3
 v3:=zeroValue3
 t4:=underlying4
 a4:=isAgg4
 z4:=sizeOf4
 v4:=zeroValue4
 t9:=underlying9
 a9:=isAgg9
 z9:=sizeOf9
 v9:=zeroValue9
 t31:=underlying125
 a31:=isAgg125
 z31:=sizeOf125
 v31:=zeroValue125}
open Go.Lib in
theorem Tryz.slices_Contains_string (b off n c:Nat)(zs:List ByteArray)(x:ByteArray)(w:World)(hz:n≤zs.length)(hbig:n≤9223372036854775807)(hc:∀j,j<zs.length→w.cell? ⟨b,off+j,none⟩=some (.string (zs.getD j ByteArray.empty))) :
  Calls prog 187 #[.slice (some ⟨b,off,none⟩) n c,.string x] w fun e w'=>e=.returned (.bool (Lib.containsS (zs.take n) x))∧w'=w:=Any.slices_Contains_string Tryz.lays110 b off n c zs x w hz hbig hc
open Go.Lib in
theorem Tryz.slices_Contains_string_empty (a:Option Addr)(c:Nat)(x:ByteArray)(w:World) :
  Calls prog 187 #[.slice a 0 c,.string x] w fun e w'=>e=.returned (.bool false)∧w'=w:=Any.slices_Contains_string_empty Tryz.lays110 a c x w
def Tryz.laysSlK4_ren:Go.Shelf.Ren:=⟨fun|4=>85|n=>n,fun|22=>39|4=>4|5=>5|n=>n,fun|n=>n⟩
theorem Tryz.laysSlK4:Go.Proofs.SlLaysK.n4 prog Tryz.laysSlK4_ren:={
 mixed:=by kernel_rfl
 f4:=func85.trans (congrArg some (by kernel_rfl))
 t4:=underlying4
 a4:=isAgg4
 z4:=sizeOf4
 v4:=zeroValue4
 t22:=underlying39
 a22:=isAgg39
 z22:=sizeOf39
 v22:=zeroValue39
 t5:=underlying5
 i5:=by kernel_rfl}
open Go.RowKit Go.Lib in
theorem Tryz.bytes_Clone_at (a:Addr)(n c:Nat)(xs:List Int)(w:World)(hx:xs.length=n)(hbig:n≤140737488355328)(hc:∀i,i<n→w.cell? (a.add i)=some (.int .u8 (xs.getD i 0))) :
  Calls prog 85 #[.slice (some a) n c] w fun e w'=>∃v',e=.returned v'∧w'.ownsRow w.heap.size 5 1 v' n (xs.map (Value.int .u8))∧v'≠.slice none 0 0∧Below w.heap.size w w':=Any.bytes_Clone_at Tryz.laysSlK4 a n c xs w hx hbig hc
open Go.RowKit Go.Lib in
theorem Tryz.bytes_Clone_nil (n c:Nat)(w:World) :
  Calls prog 85 #[.slice none n c] w fun e w'=>e=.returned (.slice none 0 0)∧w'=w:=Any.bytes_Clone_nil Tryz.laysSlK4 n c w
def Tryz.laysSlJ14_ren:Go.Shelf.Ren:=⟨fun|14=>193|15=>227|n=>n,fun|26=>128|22=>39|3=>3|4=>4|0=>0|9=>9|20=>20|5=>5|n=>n,fun|n=>n⟩
theorem Tryz.laysSlJ14:Go.Proofs.SlLaysJ.n14 prog Tryz.laysSlJ14_ren:={
 mixed:=by kernel_rfl
 f14:=func193.trans (congrArg some (by kernel_rfl))
 f15:=func227.trans (congrArg some (by kernel_rfl))
 t0:=underlying0
 a0:=isAgg0
 z0:=sizeOf0
 v0:=zeroValue0
 t3:=underlying3
 a3:=isAgg3
 z3:=sizeOf3
 v3:=zeroValue3
 t4:=underlying4
 a4:=isAgg4
 z4:=sizeOf4
 v4:=zeroValue4
 t9:=underlying9
 a9:=isAgg9
 z9:=sizeOf9
 v9:=zeroValue9
 t20:=underlying20
 a20:=isAgg20
 z20:=sizeOf20
 v20:=zeroValue20
 t22:=underlying39
 a22:=isAgg39
 z22:=sizeOf39
 v22:=zeroValue39
 t26:=underlying128
 a26:=isAgg128
 z26:=sizeOf128
 v26:=zeroValue128
 t5:=underlying5
 z5:=sizeOf5
 i5:=by kernel_rfl}
open Go.RowKit Go.Lib in
theorem Tryz.bytes_Join_many (b o n c:Nat)(vs:List Value)(ls:List (List UInt8))(sv:Value)(sep:List UInt8)(w:World)(hn:ls.length=n)(h2:2≤n)(hP:Lib.PartsAt w ⟨b,o,none⟩ vs ls)(hcap:n≤c)(hS:Lib.HoldsBytes w sv sep)(hn47:n≤140737488355328)(hlen:Lib.lens ls+sep.length*(n-1)≤140737488355328) :
  Calls prog 193 #[.slice (some ⟨b,o,none⟩) n c,sv] w fun e w'=>∃v',e=.returned v'∧Lib.FreshBytes w.heap.size w' v' (Lib.join ls sep)∧Below w.heap.size w w':=Any.bytes_Join_many Tryz.laysSlJ14 b o n c vs ls sv sep w hn h2 hP hcap hS hn47 hlen
open Go.RowKit Go.Lib in
theorem Tryz.bytes_Join_none (p:Option Addr)(c:Nat)(sv:Value)(w:World) :
  Calls prog 193 #[.slice p 0 c,sv] w fun e w'=>e=.returned (.slice (some ⟨w.heap.size,0,none⟩) 0 0)∧w'=w.alloc (.cells #[] 5):=Any.bytes_Join_none Tryz.laysSlJ14 p c sv w
open Go.RowKit Go.Lib in
theorem Tryz.bytes_Join_one (b o c:Nat)(ad0:Addr)(c0:Nat)(l0:List UInt8)(sv:Value)(w:World)(hcell:w.cell? ⟨b,o,none⟩=some (.slice (some ad0) l0.length c0))(hc:∀(i:Nat) x,l0[i]?=some x→w.cell? (ad0.add i)=some (.int .u8 (x.toNat:Int)))(h0:0<l0.length)(hs:l0.length≤140737488355328) :
  Calls prog 193 #[.slice (some ⟨b,o,none⟩) 1 c,sv] w fun e w'=>∃v',e=.returned v'∧Lib.FreshBytes w.heap.size w' v' l0∧Below w.heap.size w w':=Any.bytes_Join_one Tryz.laysSlJ14 b o c ad0 c0 l0 sv w hcell hc h0 hs
open Go.RowKit Go.Lib in
theorem Tryz.bytes_Join_one_empty (b o c:Nat)(p0:Option Addr)(c0:Nat)(sv:Value)(w:World)(hcell:w.cell? ⟨b,o,none⟩=some (.slice p0 0 c0)) :
  Calls prog 193 #[.slice (some ⟨b,o,none⟩) 1 c,sv] w fun e w'=>e=.returned (.slice none 0 0)∧w'=w:=Any.bytes_Join_one_empty Tryz.laysSlJ14 b o c p0 c0 sv w hcell
def Tryz.laysnb115_ren:Go.Shelf.Ren:=⟨fun|115=>69|n=>n,fun|37=>39|4=>4|9=>9|5=>5|n=>n,fun|n=>n⟩
theorem Tryz.laysnb115:Go.Proofs.Lays.nb115 prog Tryz.laysnb115_ren:={
 mixed:=by kernel_rfl
 f115:=func69.trans (congrArg some (by kernel_rfl))
 t4:=underlying4
 a4:=isAgg4
 z4:=sizeOf4
 v4:=zeroValue4
 t9:=underlying9
 a9:=isAgg9
 z9:=sizeOf9
 v9:=zeroValue9
 t37:=underlying39
 a37:=isAgg39
 z37:=sizeOf39
 v37:=zeroValue39
 t5:=underlying5
 a5:=isAgg5
 z5:=sizeOf5
 v5:=zeroValue5}
theorem Tryz.bytes_Equal_all (p1 p2:Option Addr)(n c m d:Nat)(xs ys:List Int)(w:World)(hx:xs.length=n)(hy:ys.length=m)(h1:Lib.BytesIn w p1 n xs)(h2:Lib.BytesIn w p2 m ys) :
  Calls prog 69 #[.slice p1 n c,.slice p2 m d] w fun e w'=>e=.returned (.bool (Lib.bytesOf xs==Lib.bytesOf ys))∧w'=w:=Any.bytes_Equal_all Tryz.laysnb115 p1 p2 n c m d xs ys w hx hy h1 h2
end Go.Proofs

/- What the program's functions and the document's do, and plain laws, for PZoneStates. -/
import Derived.Test.YtmcanphlgkolcaaGreatDoorCA
import Derived.Test.YtmcanphlgkolcaaGreatDoorCB
import Derived.Test.YtmcanphlgkolcaaGreatDoorCE
import Derived.Test.YtmcanphlgkolcaaGreatDoorCF
open Go.Proofs.Tryz
set_option maxRecDepth 100000
set_option maxHeartbeats 64000000
namespace Go.Proofs.YtmcanphlgkolcaaGreatDoor
open Go.RowKit Go.Sat Go.Maps
def zBR (h:zAj)(b l:Nat)(ev:Value)(dead:Bool):Obj:=.cells #[.int .i64 h.id,.string h.fr,.string h.tu,.int .i64 h.epoch,.int .i64 h.state,.pointer (some ⟨b,0,none⟩),.pointer (some ⟨l,0,none⟩),ev,.bool dead] 82 (0,0)
def zBm (h:zAj)(img:Bs):Bs:=zA5 [h.id]++(zAw h.fr.data.toList++zAw h.tu.data.toList)++zA5 [h.epoch,h.state]++zAw img
def zAj.small (h:zAj):Prop:=(-9223372036854775808≤h.id∧h.id≤9223372036854775807)∧(-9223372036854775808≤h.epoch∧h.epoch≤9223372036854775807)∧(-9223372036854775808≤h.state∧h.state≤9223372036854775807)∧h.fr.size≤1099511627776∧h.tu.size≤1099511627776
theorem zBq {x:Bs}(b:x.length≤1099511627776):(zAw x).length≤9+x.length:=by
 have:=zAk (n:=x.length) (by omega);simp[zAw];omega
theorem zBV (s:ByteArray):s.data.toList.length=s.size:=by simp
theorem has_own {w W:World}{v:Value}{l:Bs}(h:zA4 w 5 v l)(b:∀k,v.ownBlock=some k→W.heap[k]?=w.heap[k]?):zAf W v l:=zA4.has (OwnR.keep h b)
theorem zdata_calls {w:World}{z eb l vm sm tm am:Nat}{own:Nat→Option (Nat×Bs)}{h:zAj}{ev:Value}{dead:Bool}(hz:w.heap[z]?=some (zBR h eb l ev dead))(hE:zAI w eb vm sm tm am E0 own)(hs:h.small) :
  Calls prog 33 #[.pointer (some ⟨z,0,none⟩)] w (NewR w (zBm h [0,0,0,0])):=by
 obtain⟨Q,fr,tu,E,F⟩:=h;have hs:(-9223372036854775808≤Q∧Q≤9223372036854775807)∧(-9223372036854775808≤E∧E≤9223372036854775807)∧(-9223372036854775808≤F∧F≤9223372036854775807)∧fr.size≤1099511627776∧tu.size≤1099511627776:=hs;obtain⟨ZO,aw⟩:∃ZO,ZO=zBR ⟨Q,fr,tu,E,F⟩ eb l ev dead:=⟨_,rfl⟩;have Y:=zh hs;have HE:=zh hE;have R:=zh hz;have aj:=zAC w (.cells #[.slice none 0 0] 133);have c0:(w.alloc (.cells #[.slice none 0 0] 133)).cell? ⟨z,0,none⟩=some (.int .i64 Q):=zAB ((aj.block z (zAA hz)).trans hz) rfl;obtain⟨W0,ab⟩:∃W0,W0=w.alloc (.cells #[.slice none 0 0] 133):=⟨_,rfl⟩;have aq:=zW (WrB w.heap.size W0 w.heap.size []) (ab▸wrB_new w);have ao:=zW (Below w.heap.size w W0) (ab▸aj);have au:=zh (show w.heap.size+1=W0.heap.size by rw[ab];simp);have ap:=zh ab;have Hl:=zh (And.intro (zBq (x:=fr.data.toList) (by rw[zBV];exact hs.2.2.2.1)) (zBq (x:=tu.data.toList) (by rw[zBV];exact hs.2.2.2.2)));clear ab aj hE hz hs aw
 go_enter func33,ntmps33
 go_wp2_with fail;rw[←ap.o];clear c0;refine(zCC aq.o [Q] #[.int .i64 Q] rfl (by have:=Y.o;simp;omega) (by simp) (w.heap.size+1) 1 1 au.o rfl (0,0)).mono ?_;rintro e W1 ⟨rfl,y,t⟩;have ar:=zW (WrB w.heap.size W1 w.heap.size (zA5 [Q])) y;have ag:=zh (ao.o.trans t);clear y t;have L:=zh (zAq [Q]);go_wp2_with fail;have G:=(ag.o.block z (zAA R.o)).trans R.o;refine ost (fun w':World=>w'.heap[z]?=some (zBR ⟨Q,fr,tu,E,F⟩ eb l ev dead)) 16 G fun b=>?_;have s:=zAG W1;have an:=zh (ar.o.keep s);have af:=zh (ag.o.trans (s.mono ag.o.size));clear G s;generalize W1.drew=D at *;refine Pl [0,1,2,3,4,5,7,8,9,10,11,12] ?_
 iterate 12 (refine Pd rfl (by intro w' H;have p1:=zCF H;have p2:=zCG H;go_simp;try with_reducible rfl) ?_;simp only[uZ])
 refine Pn ?_;refine zBb 6 13 rfl rfl (by kernel_rfl) (by rfl) (by rfl) (fun K d=>?_) (fun K d=>?_)
 ·obtain⟨c1,Z,ak,B,A,O⟩:=zBC D fr;have G:=(A.block z (zAA b)).trans b;have a:=zh (And.intro B (And.intro A O));clear B A O;go_wp2_with fail;refine d.o _ _ G fun b=>?_;clear d ak G
  try simp only[uZ]
  refine oon 13 rfl fun K d=>?_;obtain⟨c2,V2,al,C,r,P⟩:=zBC Z tu;have aa:=(r.block z (zAA b)).trans b;have M:=zh (And.intro C (And.intro r P));clear C r P;go_wp2_with fail;refine d.o _ _ aa fun b=>?_;clear d al aa
  try simp only[uZ]
  refine oon 14 rfl fun K d=>?_;have n:=((zAC V2 (.cells #[.slice (some ⟨D.heap.size,0,none⟩) fr.size c1,.slice (some ⟨Z.heap.size,0,none⟩) tu.size c2] 39)).block z (zAA b)).trans b;go_wp2_with fail;refine d.o _ _ n fun b=>?_;clear d n
  try simp only[uZ]
  refine oon 15 rfl fun K d=>?_;have q:=a.o.2.1.trans (M.o.2.1.mono a.o.2.1.size);have f:(zBL [((.slice (some ⟨D.heap.size,0,none⟩) fr.size c1:Value),fr.data.toList),(.slice (some ⟨Z.heap.size,0,none⟩) tu.size c2,tu.data.toList)])=zAw fr.data.toList++zAw tu.data.toList:=by simp[zBL]
  have m:=zDS an.o q (rows:=[(.slice (some ⟨D.heap.size,0,none⟩) fr.size c1,fr.data.toList),(.slice (some ⟨Z.heap.size,0,none⟩) tu.size c2,tu.data.toList)])
   #[.slice (some ⟨D.heap.size,0,none⟩) fr.size c1,.slice (some ⟨Z.heap.size,0,none⟩) tu.size c2] rfl
   (fun W hW p hp=>by
    obtain⟨B,A,O⟩:=a.o;obtain⟨C,r,P⟩:=M.o;simp only[List.mem_cons,List.not_mem_nil,or_false]at hp;rcases hp with rfl|rfl
    ·exact B W fun k e=>by subst e;exact(hW _ (by omega) (by omega)).trans (r.block _ (by omega))
    ·exact C W fun k e=>by subst e;exact hW _ (by omega) (by omega))
   (by rw[f];have h1:=Hl.o;have h2:=L.o;have h3:=Y.o;have:=zBV fr;have:=zBV tu;simp only[List.length_append,List.length_cons,List.length_nil]at *;omega) V2.heap.size 2 2 rfl rfl (by decide) (0,0)
  rw[f]at m;have m:=zh m;clear f;go_wp2_with fail;refine m.o.mono ?_;rintro e W5 ⟨rfl,y,t⟩;have J:=((q.mono af.o.size).trans t);have U:=zh y;have i:=zh (af.o.trans J);have c:=(i.o.block z (zAA R.o)).trans R.o;clear y t J q m a M b;go_wp2_with fail;refine d.o _ _ c fun b=>?_;clear d c;refine odn ?_;go_wp2_with fail;have c:=(i.o.block z (zAA R.o)).trans R.o;refine ost (fun w':World=>w'.heap[z]?=some (zBR ⟨Q,fr,tu,E,F⟩ eb l ev dead)) 12 c fun b=>?_;have s:=zAG W5;have V:=zh (U.o.keep s);have S:=zh (i.o.trans (s.mono i.o.size));clear c s U i;generalize W5.drew=D6 at *;refine Pl [0,1,2,3,4,5,6,7,8,9] ?_
  iterate 10 (refine Pd rfl (by intro w' H;have p1:=zCZ H;have p2:=zDL H;go_simp;try with_reducible rfl) ?_;simp only[uZ])
  refine Pn ?_;refine oon 10 rfl fun K d=>?_;have n:=((zAC D6 (.cells #[.int .i64 E,.int .i64 F] 3)).block z (zAA b)).trans b;go_wp2_with fail;refine d.o _ _ n fun b=>?_;clear d n
  try simp only[uZ]
  refine oon 11 rfl fun K d=>?_;have m:=zh (zCC V.o [E,F] #[.int .i64 E,.int .i64 F] rfl (by have:=Y.o;simp;omega) (by have h1:=Hl.o;have h2:=L.o;have h3:=Y.o;have:=zBV fr;have:=zBV tu;simp only[List.length_append,List.length_cons,List.length_nil]at *;omega) D6.heap.size 2 2 rfl rfl (0,0));go_wp2_with fail;refine m.o.mono ?_;rintro e W7 ⟨rfl,y,t⟩;have X:=zh y;have j:=zh (S.o.trans t);have c:=(j.o.block z (zAA R.o)).trans R.o;clear y t m V S b;go_wp2_with fail;refine d.o _ _ c fun b=>?_;clear d;refine odn ?_;have c5:W7.cell? ⟨z,5,none⟩=some (.pointer (some ⟨eb,0,none⟩)):=zAB c rfl;have HN:=zh (zDW (HE.o.bel j.o));clear c b;go_wp2_with fail;refine HN.o.mono ?_;rintro e W8 ⟨v,rfl,hv,ae,N⟩;obtain⟨pv,cv,rfl,-⟩:=zAN hv;have ac:=zh (zAq [E,F]);have m:=zh (zDS X.o N (rows:=[(.slice pv 4 cv,[0,0,0,0])]) #[.slice pv 4 cv] rfl
   (fun W hW p hp=>by
    simp only[List.mem_cons,List.not_mem_nil,or_false]at hp;subst hp;exact has_own hv fun k hk=>hW k (ae k hk) (OwnR.lt hv hk))
   (by have h1:=Hl.o;have h2:=L.o;have ai:=ac.o;have h3:=Y.o;have:=zBV fr;have:=zBV tu;have h4:(zBL [((.slice pv 4 cv:Value),([0,0,0,0]:Bs))]).length≤13:=(by have:=zBq (x:=[0,0,0,0]) (by decide);simp[zBL]at *;omega);simp only[List.length_append,List.length_cons,List.length_nil]at *;omega) W8.heap.size 1 1 rfl rfl (by decide) (0,0))
  have T:=zh (j.o.trans (N.mono j.o.size));clear hv ae N HN c5 X j;go_wp2_with fail;refine m.o.mono ?_;rintro e W9 ⟨rfl,y,t⟩;have ah:=zh (T.o.trans t);have HO:=zh (wrB_out y (by have h1:=Hl.o;have h2:=L.o;have ai:=ac.o;have h3:=Y.o;have:=zBV fr;have:=zBV tu;have h4:(zBL [((.slice pv 4 cv:Value),([0,0,0,0]:Bs))]).length≤13:=(by have:=zBq (x:=[0,0,0,0]) (by decide);simp[zBL]at *;omega);simp only[List.length_append,List.length_cons,List.length_nil]at *;omega));clear y t m T;go_wp2_with fail;refine HO.o.mono ?_;rintro e av ⟨u,rfl,hu,ad,I⟩;have HU:=zh (And.intro hu (And.intro ad I));clear hu ad I HO;go_wp2_with fail;go_ret;refine⟨u,rfl,?_,HU.o.2.1,ah.o.trans HU.o.2.2⟩;have e1:zBm ⟨Q,fr,tu,E,F⟩ [0,0,0,0]=zA5 [Q]++(zAw fr.data.toList++zAw tu.data.toList)++zA5 [E,F]++zBL [((.slice pv 4 cv:Value),([0,0,0,0]:Bs))]:=by
   rw[show zBL [((.slice pv 4 cv:Value),([0,0,0,0]:Bs))]=zAw [0,0,0,0] by simp[zBL]];rfl
  rw[e1];exact HU.o.1
 ·obtain⟨c1,Z,ak,B,A,O⟩:=zBC D tu;have G:=(A.block z (zAA b)).trans b;have a:=zh (And.intro B (And.intro A O));clear B A O;go_wp2_with fail;refine d.o _ _ G fun b=>?_;clear d ak G
  try simp only[uZ]
  refine oon 6 rfl fun K d=>?_;obtain⟨c2,V2,al,C,r,P⟩:=zBC Z fr;have aa:=(r.block z (zAA b)).trans b;have M:=zh (And.intro C (And.intro r P));clear C r P;go_wp2_with fail;refine d.o _ _ aa fun b=>?_;clear d al aa
  try simp only[uZ]
  refine oon 14 rfl fun K d=>?_;have n:=((zAC V2 (.cells #[.slice (some ⟨Z.heap.size,0,none⟩) fr.size c2,.slice (some ⟨D.heap.size,0,none⟩) tu.size c1] 39)).block z (zAA b)).trans b;go_wp2_with fail;refine d.o _ _ n fun b=>?_;clear d n
  try simp only[uZ]
  refine oon 15 rfl fun K d=>?_;have q:=a.o.2.1.trans (M.o.2.1.mono a.o.2.1.size);have f:(zBL [((.slice (some ⟨Z.heap.size,0,none⟩) fr.size c2:Value),fr.data.toList),(.slice (some ⟨D.heap.size,0,none⟩) tu.size c1,tu.data.toList)])=zAw fr.data.toList++zAw tu.data.toList:=by simp[zBL]
  have m:=zDS an.o q (rows:=[(.slice (some ⟨Z.heap.size,0,none⟩) fr.size c2,fr.data.toList),(.slice (some ⟨D.heap.size,0,none⟩) tu.size c1,tu.data.toList)])
   #[.slice (some ⟨Z.heap.size,0,none⟩) fr.size c2,.slice (some ⟨D.heap.size,0,none⟩) tu.size c1] rfl
   (fun W hW p hp=>by
    obtain⟨B,A,O⟩:=a.o;obtain⟨C,r,P⟩:=M.o;simp only[List.mem_cons,List.not_mem_nil,or_false]at hp;rcases hp with rfl|rfl
    ·exact C W fun k e=>by subst e;exact hW _ (by omega) (by omega)
    ·exact B W fun k e=>by subst e;exact(hW _ (by omega) (by omega)).trans (r.block _ (by omega)))
   (by rw[f];have h1:=Hl.o;have h2:=L.o;have h3:=Y.o;have:=zBV fr;have:=zBV tu;simp only[List.length_append,List.length_cons,List.length_nil]at *;omega) V2.heap.size 2 2 rfl rfl (by decide) (0,0)
  rw[f]at m;have m:=zh m;clear f;go_wp2_with fail;refine m.o.mono ?_;rintro e W5 ⟨rfl,y,t⟩;have J:=((q.mono af.o.size).trans t);have U:=zh y;have i:=zh (af.o.trans J);have c:=(i.o.block z (zAA R.o)).trans R.o;clear y t J q m a M b;go_wp2_with fail;refine d.o _ _ c fun b=>?_;clear d c;refine odn ?_;go_wp2_with fail;have c:=(i.o.block z (zAA R.o)).trans R.o;refine ost (fun w':World=>w'.heap[z]?=some (zBR ⟨Q,fr,tu,E,F⟩ eb l ev dead)) 12 c fun b=>?_;have s:=zAG W5;have V:=zh (U.o.keep s);have S:=zh (i.o.trans (s.mono i.o.size));clear c s U i;generalize W5.drew=D6 at *;refine Pl [0,1,2,3,4,5,6,7,8,9] ?_
  iterate 10 (refine Pd rfl (by intro w' H;have p1:=zCZ H;have p2:=zDL H;go_simp;try with_reducible rfl) ?_;simp only[uZ])
  refine Pn ?_;refine oon 10 rfl fun K d=>?_;have n:=((zAC D6 (.cells #[.int .i64 E,.int .i64 F] 3)).block z (zAA b)).trans b;go_wp2_with fail;refine d.o _ _ n fun b=>?_;clear d n
  try simp only[uZ]
  refine oon 11 rfl fun K d=>?_;have m:=zh (zCC V.o [E,F] #[.int .i64 E,.int .i64 F] rfl (by have:=Y.o;simp;omega) (by have h1:=Hl.o;have h2:=L.o;have h3:=Y.o;have:=zBV fr;have:=zBV tu;simp only[List.length_append,List.length_cons,List.length_nil]at *;omega) D6.heap.size 2 2 rfl rfl (0,0));go_wp2_with fail;refine m.o.mono ?_;rintro e W7 ⟨rfl,y,t⟩;have X:=zh y;have j:=zh (S.o.trans t);have c:=(j.o.block z (zAA R.o)).trans R.o;clear y t m V S b;go_wp2_with fail;refine d.o _ _ c fun b=>?_;clear d;refine odn ?_;have c5:W7.cell? ⟨z,5,none⟩=some (.pointer (some ⟨eb,0,none⟩)):=zAB c rfl;have HN:=zh (zDW (HE.o.bel j.o));clear c b;go_wp2_with fail;refine HN.o.mono ?_;rintro e W8 ⟨v,rfl,hv,ae,N⟩;obtain⟨pv,cv,rfl,-⟩:=zAN hv;have ac:=zh (zAq [E,F]);have m:=zh (zDS X.o N (rows:=[(.slice pv 4 cv,[0,0,0,0])]) #[.slice pv 4 cv] rfl
   (fun W hW p hp=>by
    simp only[List.mem_cons,List.not_mem_nil,or_false]at hp;subst hp;exact has_own hv fun k hk=>hW k (ae k hk) (OwnR.lt hv hk))
   (by have h1:=Hl.o;have h2:=L.o;have ai:=ac.o;have h3:=Y.o;have:=zBV fr;have:=zBV tu;have h4:(zBL [((.slice pv 4 cv:Value),([0,0,0,0]:Bs))]).length≤13:=(by have:=zBq (x:=[0,0,0,0]) (by decide);simp[zBL]at *;omega);simp only[List.length_append,List.length_cons,List.length_nil]at *;omega) W8.heap.size 1 1 rfl rfl (by decide) (0,0))
  have T:=zh (j.o.trans (N.mono j.o.size));clear hv ae N HN c5 X j;go_wp2_with fail;refine m.o.mono ?_;rintro e W9 ⟨rfl,y,t⟩;have ah:=zh (T.o.trans t);have HO:=zh (wrB_out y (by have h1:=Hl.o;have h2:=L.o;have ai:=ac.o;have h3:=Y.o;have:=zBV fr;have:=zBV tu;have h4:(zBL [((.slice pv 4 cv:Value),([0,0,0,0]:Bs))]).length≤13:=(by have:=zBq (x:=[0,0,0,0]) (by decide);simp[zBL]at *;omega);simp only[List.length_append,List.length_cons,List.length_nil]at *;omega));clear y t m T;go_wp2_with fail;refine HO.o.mono ?_;rintro e av ⟨u,rfl,hu,ad,I⟩;have HU:=zh (And.intro hu (And.intro ad I));clear hu ad I HO;go_wp2_with fail;go_ret;refine⟨u,rfl,?_,HU.o.2.1,ah.o.trans HU.o.2.2⟩;have e1:zBm ⟨Q,fr,tu,E,F⟩ [0,0,0,0]=zA5 [Q]++(zAw fr.data.toList++zAw tu.data.toList)++zA5 [E,F]++zBL [((.slice pv 4 cv:Value),([0,0,0,0]:Bs))]:=by
   rw[show zBL [((.slice pv 4 cv:Value),([0,0,0,0]:Bs))]=zAw [0,0,0,0] by simp[zBL]];rfl
  rw[e1];exact HU.o.1
theorem hasN_one (w:World)(s:ByteArray)(e:TypeId)(fr:Nat×Nat):HasN (w.alloc (.cells #[.string s] e fr)) (.slice (some ⟨w.heap.size,0,none⟩) 1 1) [nm s]:=by
 refine⟨by simp,some ⟨w.heap.size,0,none⟩,1,rfl,fun e=>(by cases e),fun a c i u b=>?_⟩;cases c;rw[add_zero];refine zAB (zAF w _) ?_;have:[encStr (nm s)]=[Value.string s]:=by rw[enc_str,str_of]
 rw[List.map_cons,List.map_nil,this]at b;simpa using b
theorem told_rid1 {w w1 w2:World}{d:Nat}{D:zAD}{F:Nat→Prop}(h:St w w1 d D F)(c:Below w1.heap.size w1 w2)(s:ByteArray)(i:s.size≤9223372036854775807) :
  Calls prog 82 #[.pointer (some ⟨d,0,none⟩),.slice (some ⟨w2.heap.size,0,none⟩) 1 1] (w2.alloc (.cells #[.string s] 9)) (Told w d F w1 (D.rid [nm s])):=by
 have j:=c.size;have f:Below w1.heap.size w1 (w2.alloc (.cells #[.string s] 9)):=c.alloc c.size _;have o:St w (w2.alloc (.cells #[.string s] 9)) d D (fun k=>F k∨k=w2.heap.size):=h.move (Chg.of_below f) (fun _ _ h=>h.elim) fun k b=>by
  rcases b with b|rfl
  ·exact⟨.inl b,Nat.lt_of_lt_of_le (h.flt b) f.size⟩
  ·exact⟨.inr j,by simp⟩
 refine(removes_calls o (ns:=[nm s]) (fun W _ i=>HasN.same (hasN_one w2 s _ _) fun k b=>i k (.inr (by cases b;rfl))) (by simpa[zDk]using i) (by simp)).mono ?_;rintro e w' ⟨rfl,n,m⟩;exact⟨rfl,n.less fun _ b=>.inl b,fun k b=>(m k (.inl b)).trans (f.block k (h.flt b))⟩
section
variable {w w1:World} {l d:Nat} {pre:ByteArray} {D:zAD} {M:zAl} {F:Nat→Prop}
theorem clears_calls (h:St w w1 d D F)(y:zC5 l d pre w1)(hF:F l) :
  Calls prog 73 #[.pointer (some ⟨l,0,none⟩)] w1 (Told w d F w1 (D.rid [zAL (zCT (nm pre))])):=by
 have k:=zh y;obtain⟨q,r,s⟩:=y;have f:=told_rid1 h (Below.refl _ w1).drew (sShadow (sImg pre)) (by rw[size_sha,size_img];omega);rw[nm_sha,nm_img]at f;have m:=zh f;have a:(sImg pre).size=pre.size+4:=size_img pre;clear f h
 go_enter func73,ntmps73
 go_wp2_with fail;refine ost (fun w':World=>w'.cell? ⟨l,0,none⟩=some (.pointer (some ⟨d,0,none⟩))∧w'.cell? ⟨l,1,none⟩=some (.string pre)) 10 (⟨q,r⟩) fun b=>?_;generalize w1.drew=t at *;refine Pl [0,1,2,3,4] ?_
 iterate 5 (refine Pc rfl ?_;simp only[uZ])
 refine Pn ?_;refine oon 5 rfl fun K c=>?_;go_wp2_with fail;refine(zBT ⟨b.1,b.2,s⟩).mono ?_;rintro e A ⟨rfl,rfl⟩;go_wp2_with fail;refine c.o _ _ (b) fun b=>?_;clear c
 try simp only[uZ]
 refine otc 6 (v:=?v1x6) rfl ?y1x6 ?_
 case y1x6=>(intro w n;(try dsimp only at n);go_simp;rw[if_neg (by omega)];try with_reducible rfl)
 simp only[uZ];refine oon 7 rfl fun K c=>?_;have j:=zW ((t.alloc (.cells #[.string (sShadow (sImg pre))] 9)).cell? ⟨l,0,none⟩=some (.pointer (some ⟨d,0,none⟩))∧(t.alloc (.cells #[.string (sShadow (sImg pre))] 9)).cell? ⟨l,1,none⟩=some (.string pre)) (⟨zAP b.1 _,zAP b.2 _⟩);go_wp2_with fail;refine c.o _ _ (j.o) fun b=>?_;clear c
 try simp only[uZ]
 refine oon 8 rfl fun K c=>?_;go_wp2_with fail;refine m.o.mono ?_;intro e w3 p;have z:=zh p;have i:=zh (k.o.same (p.2.2 l hF));obtain⟨rfl,-⟩:=p;go_wp2_with fail;refine c.o _ _ (⟨i.o.1,i.o.2.1⟩) fun b=>?_;clear c
 try simp only[uZ]
 refine otk 9 (v:=?v1x9) rfl ?_;simp only[uZ];refine odn ?_;go_wp2_with fail;go_ret;exact z.o
def Given (w1:World)(b:Bs)(v:Value)(w':World):Prop:=zA4 w' 5 v b∧(∀k,v.ownBlock=some k→w1.heap.size≤k)∧Below w1.heap.size w1 w'
theorem base_calls (h:zAm w w1 l d pre D M F) :
  Calls prog 55 #[.pointer (some ⟨l,0,none⟩)] w1 fun e w'=>∃v,e=.returned (.tuple #[.int .i64 (M.base:Int),v])∧Given w1 M.data v w':=by
 obtain⟨own,a,ev,vs,i,-⟩:=h;have A:=i.c2;have B:=i.c3;have m:=zh (zAx (zA4.has (OwnR.keep i.data fun _ _=>rfl:zA4 w1.drew 5 a M.data)) (Nat.le_trans i.big.1 (by decide)));have y:=zh i.olt;have z:=zh i.ol;obtain⟨p,c,rfl,-⟩:=zAN i.data;clear i;generalize M.data.length=n at *;generalize M.base=b at *
 go_enter func55,ntmps55
 go_wp2_with fail;refine ost (fun w':World=>w'.cell? ⟨l,2,none⟩=some (.int .i64 (b:Int))∧w'.cell? ⟨l,3,none⟩=some (.slice p n c)) 11 (⟨A,B⟩) fun f=>?_
 
 refine Pl [0,1,2,3,4,5,6,7] ?_
 iterate 8 (refine Pc rfl ?_;simp only[uZ])
 refine Pn ?_;refine oon 8 rfl fun K s=>?_;go_wp2_with fail;refine m.o.mono ?_;rintro e w3 ⟨v,rfl,r,j,k⟩;have q:=zW (w3.cell? ⟨l,2,none⟩=some (.int .i64 (b:Int))∧w3.cell? ⟨l,3,none⟩=some (.slice p n c)) (⟨(k.cell (World.block_lt_of_cell? _ _ f.1)).trans f.1,(k.cell (World.block_lt_of_cell? _ _ f.2)).trans f.2⟩);have t:=zW (Given w1 M.data v w3) (⟨r,j,(zAG w1).trans k⟩);obtain⟨pv,cv,rfl,-⟩:=zAN r;clear r j k;go_wp2_with fail;refine s.o _ _ (q.o) fun f=>?_;clear s
 try simp only[uZ]
 refine Pl [9,10] ?_
 iterate 2 (refine Pc rfl ?_;simp only[uZ])
 refine Pn ?_;refine odn ?_;go_wp2_with fail
 go_ret2
 exact⟨_,rfl,t.o⟩
theorem at_yes (h:zAm w w1 l d pre D M F)(j:Nat)(L:j<M.entries.length) :
  Calls prog 57 #[.pointer (some ⟨l,0,none⟩),.int .i64 (((M.base+1+j:Nat)):Int)] w1 fun e w'=>∃v,e=.returned (.tuple #[v,.int .i64 0])∧Given w1 M.entries[j] v w':=by
 have H:=zh (zAv h);have A:=h.last;obtain⟨own,dv,ev,vs,t,-⟩:=h;have I:=t.c2;have J:=t.c4;have C:j<vs.length:=by rw[t.len];exact L
 have r:=t.rows j _ _ (List.getElem?_eq_getElem C) (List.getElem?_eq_getElem L);have y:=t.big.2 _ (List.getElem_mem L);rcases t.row.2 with⟨-,h0⟩|⟨g,z,cur,rfl,-⟩
 ·omega
 have i:=t.row.cells (g:=g) rfl j _ (List.getElem?_eq_getElem C);rw[add_zero]at i;have B:=zh (fun W (a:Below w1.heap.size w1 W)=>zAx (zA4.has (zCV r a)) (Nat.le_trans y (by decide)));obtain⟨p,c,Q,-⟩:=zAN r;rw[Q]at i B;unfold zAl.last at A;have S:=zW (M.last=M.base+M.entries.length) rfl;clear t r y Q;generalize M.entries[j]=x at *;generalize x.length=m at *;generalize M.entries.length=n at *;generalize M.last=la at *;generalize M.base=b at *;have N:la=b+n:=S.o;have U:((b+1+j:Nat):Int)=(b:Int)+1+(j:Int):=by omega
 rw[U];have Z:¬((b:Int)+1+(j:Int)≤(b:Int)):=by omega
 have aa:¬((la:Int)<(b:Int)+1+(j:Int)):=by omega
 have V:decide ((b:Int)+1+(j:Int)≤(b:Int))=false:=by simp;omega
 have X:decide ((la:Int)<(b:Int)+1+(j:Int))=false:=by simp;omega
 have ab:IntKind.i64.wrap ((b:Int)+1+(j:Int)-(b:Int))=(j:Int)+1:=by rw[IntWalk.i64_in _ (by omega)];omega
 have ac:IntKind.i64.wrap (j:Int)=(j:Int):=IntWalk.i64_in _ (by omega);clear N
 go_enter func57,ntmps57
 go_wp2_with fail;refine H.o.mono ?_;rintro e w2 ⟨rfl,q,rfl⟩;have I:(w1.drewN q).cell? ⟨l,2,none⟩=some (.int .i64 (b:Int)):=I;have J:(w1.drewN q).cell? ⟨l,4,none⟩=some (.slice (some ⟨g,0,none⟩) n z):=J;have i:(w1.drewN q).cell? ⟨g,j,none⟩=some (.slice p m c):=i;go_wp2_with fail;refine ost (fun w':World=>w'.cell? ⟨l,2,none⟩=some (.int .i64 (b:Int))∧w'.cell? ⟨l,4,none⟩=some (.slice (some ⟨g,0,none⟩) n z)∧w'.cell? ⟨g,j,none⟩=some (.slice p m c)) 16 (⟨I,J,i⟩) fun f=>?_;have s:=zW (Below w1.heap.size w1 (w1.drewN q).drew) (⟨rfl,rfl,rfl,Nat.le_refl _,fun _ _=>rfl⟩);generalize (w1.drewN q).drew=T at *;refine Pl [0,1,2,3,4,5,6,7,8,9,10,11,12] ?_
 iterate 13 (refine Pc rfl ?_;simp only[uZ])
 refine Pn ?_;refine oon 13 rfl fun K P=>?_;go_wp2_with fail;refine(B.o T s.o).mono ?_;rintro e w3 ⟨v,rfl,O,E,a⟩;have G:=zW (w3.cell? ⟨l,2,none⟩=some (.int .i64 (b:Int))∧w3.cell? ⟨l,4,none⟩=some (.slice (some ⟨g,0,none⟩) n z)∧w3.cell? ⟨g,j,none⟩=some (.slice p m c)) (⟨(a.cell (World.block_lt_of_cell? _ _ f.1)).trans f.1,(a.cell (World.block_lt_of_cell? _ _ f.2.1)).trans f.2.1,(a.cell (World.block_lt_of_cell? _ _ f.2.2)).trans f.2.2⟩);have R:=zW (Given w1 x v w3) (⟨O,fun k Y=>Nat.le_trans s.o.size (E k Y),s.o.trans (a.mono s.o.size)⟩);obtain⟨pv,cv,rfl,-⟩:=zAN O;clear O E a;go_wp2_with fail;refine P.o _ _ (G.o) fun f=>?_;clear P
 try simp only[uZ]
 refine Pl [14,15] ?_
 iterate 2 (refine Pc rfl ?_;simp only[uZ])
 refine Pn ?_;refine odn ?_;go_wp2_with fail
 go_ret2
 exact⟨_,rfl,R.o⟩
theorem dies_set {own:Nat→Prop}{j ev:Value}{vs:List Value}(c:zBd w1 l d pre own M j ev vs)(x:Bool):zBd (w1.setCell ⟨l,5,none⟩ (.bool x)) l d pre own {M with dead:=x} j ev vs where
 cells:=by have:=zAH c.cells 5 (.bool x);simpa using this
 data:=OwnR.keep c.data fun k f=>zAK _ (c.od k f).2.1
 row:=c.row.keep fun k f=>zAK _ (c.oe k f).2
 rows:=fun i u b m n=>OwnR.keep (c.rows i u b m n) fun k f=>zAK _ (c.ov u (List.mem_of_getElem? m) k f).2.1
 ol:=c.ol
 od:=c.od
 oe:=c.oe
 ov:=c.ov
 olt:=fun k f=>by have:=c.olt k f;simpa[World.setCell]using this
 last:=c.last
 psz:=c.psz
 big:=c.big
theorem zBj (h:zAm w w1 l d pre D M F)(k:Nat) :
  Calls prog 84 #[.pointer (some ⟨l,0,none⟩),.int .i64 (k:Int)] w1 fun e w'=>e=.returned (.int .i64 (k:Int))∧zAm w w' l d pre D {M with dead:=M.dead||decide (k≠0) } F∧Same F w1 w':=by
 obtain⟨own,r,ev,vs,b,hS,hn,n⟩:=h;have i:=b.c5;have s:=b.fr 5;have c:=zh (fun x=>zAm.turned (D:=D) (F:=F) hS hn n (dies_set b x) ((Chg.setCell w1 ⟨l,5,none⟩ (.bool x)).mono fun j _ e=>by rw[e];exact b.ol) fun _ h=>.inl h);clear b hS hn n;cases m:M.dead with
 | true =>
  rw[m]at i
  go_enter func84,ntmps84
  go_wp2_with fail;go_ret;exact⟨rfl,by simpa using c.o true⟩
 | false =>
  rw[m]at i
  by_cases f:k=0
  ·subst f
   go_enter func84,ntmps84
   go_wp2_with fail;go_ret;exact⟨rfl,by simpa using c.o false⟩
  ·have q:((k:Int) != 0)=true:=by simp;omega
   have p:=zh f;clear f
   go_enter func84,ntmps84
   go_wp2_with fail;go_ret;exact⟨rfl,by simpa[p.o]using c.o true⟩
end
def ImgTold (w w1:World)(l d:Nat)(pre:ByteArray)(D:zAD)(F:Nat→Prop)(i:Nat×Nat×Bs)(e:Ending)(w':World):Prop :=
 e=.returned (.int .i64 (i.1:Int))∧(i.1=0→zAm w w' l d pre D ⟨i.2.1,i.2.2,[],false⟩ F)∧St w w' d D F∧Same F w1 w'
section
variable {w w1 w2:World} {l d:Nat} {pre:ByteArray} {D:zAD} {M:zAl} {F:Nat→Prop}
theorem zAm.stF (h:zAm w w1 l d pre D M F):St w w1 d D F:=let ⟨_,_,_,_,_,hS,_,_⟩:=h;hS.less fun _ b=>.inr b
theorem img_end (h:zAm w w1 l d pre D zAl.none0 F)(b:Below w1.heap.size w1 w2)(k:Nat)(i:Nat×Nat×Bs)(c:i=(k,0,[])):ImgTold w w1 l d pre D F i (.returned (.int .i64 (k:Int))) w2:=by
 subst c;exact⟨rfl,fun _=>h.next b,(h.next b).stF,h.same b⟩
theorem imageOf_7 {o:Option zAT}(h:loadE o=7):zA2 o=(0,0,[]):=by unfold zA2;rw[if_pos h]
theorem imageOf_e {o:Option zAT}(h:loadE o≠7)(b:loadE o≠0):zA2 o=(loadE o,0,[]):=by unfold zA2;rw[if_neg h,if_pos b]
theorem imageOf_0 {o:Option zAT}(b:loadE o=0):zA2 o=if(Rd.num ⟨zCe o,false⟩).2.bytes.2.whole=false∨1099511627776<(Rd.num ⟨zCe o,false⟩).1 then(3,0,[])else(0,(Rd.num ⟨zCe o,false⟩).1,(Rd.num ⟨zCe o,false⟩).2.bytes.1):=by
 unfold zA2;rw[if_neg (by omega),if_neg (by omega)]
theorem img_set {own:Nat→Prop}{s ev:Value}{vs:List Value}(c:zBd w1 l d pre own zAl.none0 s ev vs){n:Nat}{v:Value}{b:Bs}(r:zA4 w1 5 v b)(j:∀k,v.ownBlock=some k→¬own k)(hn:n≤1099511627776)(o:b.length≤1073741824) :
  zBd ((w1.setCell ⟨l,2,none⟩ (.int .i64 (n:Int))).setCell ⟨l,3,none⟩ v) l d pre (fun k=>own k∨v.ownBlock=some k) ⟨n,b,[],false⟩ v ev vs:=by
 have f:∀k,v.ownBlock=some k→k≠l:=fun k m e=>j k m (e▸c.ol);have q:vs=[]:=List.eq_nil_of_length_eq_zero (by have:=c.len;exact this);have m:∀k,k≠l→((w1.setCell ⟨l,2,none⟩ (.int .i64 (n:Int))).setCell ⟨l,3,none⟩ v).heap[k]?=w1.heap[k]?:=fun k e=>(zAK _ e).trans (zAK _ e);subst q;refine⟨?_,OwnR.keep r fun k h=>m k (f k h),c.row.keep fun k h=>m k (c.oe k h).2,fun i u b p=>(by simp at p),.inl c.ol,fun k h=>⟨.inr h,f k h,fun e=>j k h (c.oe k e).1⟩,fun k h=>⟨.inl (c.oe k h).1,(c.oe k h).2⟩,fun u p=>(by simp at p),fun k h=>?_,?_,c.psz,o,fun b o=>(by simp at o)⟩
 ·have t:=zAH c.cells 2 (.int .i64 (n:Int));have y:=zAH t 3 v;simpa[zAl.none0]using y
 ·have:k<w1.heap.size:=h.elim (c.olt k) fun h=>OwnR.lt r h;simpa[World.setCell]using this
 ·show n+0≤_
  omega
theorem image_calls (h:zAm w w1 l d pre D zAl.none0 F) :
  Calls prog 74 #[.pointer (some ⟨l,0,none⟩)] w1 (ImgTold w w1 l d pre D F (zA2 (Sat.get (zCT (nm pre)) D.files))):=by
 obtain⟨R,S,T⟩:=h.lc;have az:=data_len h.okD (zCT (nm pre));have q:=zh (zAG w1);have L:=load_calls (h.st.next (zAG w1)) (sImg pre) (by rw[size_img];omega);rw[nm_img]at L;unfold GotL at L;generalize ho:Sat.get (zCT (nm pre)) D.files=o at *;generalize hn:(zCe o).length=n at *;have aA:n≤1073741824:=by
  rw[←hn];cases o with
  | none=>rw[loadB_none];exact Nat.zero_le _
  | some f =>
   rw[loadB_some];unfold oneB decB
   split
   ·split
    ·rw[List.length_take,List.length_drop];omega
    ·exact Nat.zero_le _
   ·exact Nat.zero_le _
 have A:=zh L;have H:=zh h;clear L h ho az
 by_cases X:loadE o=7
 ·have G:=zh (imageOf_7 X);rw[X]at A;clear X
  go_enter func74,ntmps74
  go_wp2_with fail;refine ost (fun w':World=>w'.cell? ⟨l,0,none⟩=some (.pointer (some ⟨d,0,none⟩))∧w'.cell? ⟨l,1,none⟩=some (.string pre)) 12 (⟨R,S⟩) fun b=>?_;generalize w1.drew=W1 at *;refine Pl [0,1,2,3,4] ?_
  iterate 5 (refine Pc rfl ?_;simp only[uZ])
  refine Pn ?_;refine oon 5 rfl fun K i=>?_;go_wp2_with fail;refine(zBT ⟨b.1,b.2,T⟩).mono ?_;rintro e w9 ⟨rfl,rfl⟩;go_wp2_with fail;refine i.o _ _ (b) fun b=>?_;clear i
  try simp only[uZ]
  refine oon 6 rfl fun K i=>?_;go_wp2_with fail;refine A.o.mono ?_;rintro e w2 ⟨v,rfl,C,E,p,B⟩;have a:=zW (w2.cell? ⟨l,0,none⟩=some (.pointer (some ⟨d,0,none⟩))∧w2.cell? ⟨l,1,none⟩=some (.string pre)) (⟨(p.cell (World.block_lt_of_cell? _ _ b.1)).trans b.1,(p.cell (World.block_lt_of_cell? _ _ b.2)).trans b.2⟩);have y:=zW (Below w1.heap.size w1 w2) (q.o.trans (p.mono q.o.size));have Hv:=zh C;have c:(zCe o).length=n:=hn;obtain⟨pv,cv,rfl,-⟩:=zAN C;rw[c];clear C E p B;go_wp2_with fail;refine i.o _ _ (a.o) fun b=>?_;clear i
  try simp only[uZ]
  refine Pl [7,8,9,10,11] ?_
  iterate 5 (refine Pc rfl ?_;simp only[uZ])
  refine Pn ?_;refine odn ?_;have I:=zh (img_end H.o y.o 0 _ G.o);go_wp2_with fail;go_ret;exact I.o
 ·by_cases h0:loadE o=0
  ·have G:=zh (imageOf_0 h0);rw[h0]at A;clear X h0
   go_enter func74,ntmps74
   go_wp2_with fail;refine ost (fun w':World=>w'.cell? ⟨l,0,none⟩=some (.pointer (some ⟨d,0,none⟩))∧w'.cell? ⟨l,1,none⟩=some (.string pre)) 12 (⟨R,S⟩) fun b=>?_;generalize w1.drew=W1 at *;refine Pl [0,1,2,3,4] ?_
   iterate 5 (refine Pc rfl ?_;simp only[uZ])
   refine Pn ?_;refine oon 5 rfl fun K i=>?_;go_wp2_with fail;refine(zBT ⟨b.1,b.2,T⟩).mono ?_;rintro e w9 ⟨rfl,rfl⟩;go_wp2_with fail;refine i.o _ _ (b) fun b=>?_;clear i
   try simp only[uZ]
   refine oon 6 rfl fun K i=>?_;go_wp2_with fail;refine A.o.mono ?_;rintro e w2 ⟨v,rfl,C,E,p,B⟩;have a:=zW (w2.cell? ⟨l,0,none⟩=some (.pointer (some ⟨d,0,none⟩))∧w2.cell? ⟨l,1,none⟩=some (.string pre)) (⟨(p.cell (World.block_lt_of_cell? _ _ b.1)).trans b.1,(p.cell (World.block_lt_of_cell? _ _ b.2)).trans b.2⟩);have y:=zW (Below w1.heap.size w1 w2) (q.o.trans (p.mono q.o.size));have Hv:=zh C;have c:(zCe o).length=n:=hn;obtain⟨pv,cv,rfl,-⟩:=zAN C;rw[c];clear C E p B;go_wp2_with fail;refine i.o _ _ (a.o) fun b=>?_;clear i
   try simp only[uZ]
   refine Pl [7,8,9,10,11] ?_
   iterate 5 (refine Pc rfl ?_;simp only[uZ])
   refine Pn ?_;refine odn ?_;have ae:=zh hn;have ab:=zW (zAf w2 (.slice pv n cv) (zCe o)) (by have:=Hv.o.has;rw[c]at this;exact this);clear hn c;go_wp2_with fail;refine(zEN ab.o (by rw[ae.o];omega)).mono ?_;rintro e w3 ⟨r,rfl,hr,au,ak⟩;have ag:=zW (Calls prog 119 #[.pointer (some ⟨r,0,none⟩)] w3 (zDF w3 r ⟨zCe o,false⟩)) (by obtain⟨_,_,_,h⟩:=hr;exact zEl h);have P:=zh ak;have ai:=zh au;clear hr au ak;go_wp2_with fail;refine ag.o.mono ?_;rintro e w4 ⟨rfl,ap,al⟩;have ax:=zh (rbytes_calls ap);have ac:=zh al;have aC:=Rd.num_le ⟨zCe o,false⟩;have aw:=zW ((Rd.num ⟨zCe o,false⟩).2.bytes.1.length≤1073741824) (Nat.le_trans (Rd.bytes_len _) (Nat.le_trans (Rd.num_rest _) (by show(zCe o).length≤_;rw[ae.o];exact aA)));clear ap al;generalize (Rd.num ⟨zCe o,false⟩).1=m at *;generalize (Rd.num ⟨zCe o,false⟩).2=R1 at *;go_wp2_with fail;refine ax.o.mono ?_;rintro e z ⟨v5,rfl,av,ao,aq,am⟩;have N:=zW (Below w2.heap.size w2 z) (P.o.trans ((ac.o.trans am fun _ _ e=>e).below P.o.size fun k t e=>by have:=ai.o;omega));have O:=zh (H.o.next (y.o.trans (N.o.mono y.o.size)));have ar:r≠l:=fun e=>by have V:=H.o.llt;have h2:=y.o.size;have h3:=ai.o;omega
   have af:=zW (∀k,v5.ownBlock=some k→w1.heap.size≤k) (fun k t=>by have V:=ao k t;have h2:=y.o.size;have h3:=P.o.size;have h4:=ac.o.size;omega);have ah:=zh (fun(W:World) (hs:W.heap[r]?=z.heap[r]?)=>zCP (aq.hd.same hs));have aa:=zh av;obtain⟨dv,ev,j,-⟩:=O.o.cells;have k2:z.cell? ⟨l,2,none⟩=some (.int .i64 (zAl.none0.base:Int)):=zAB j rfl;have k3:z.cell? ⟨l,3,none⟩=some dv:=zAB j rfl;have f2:=zAE j 2;have f3:=zAE j 3;clear av ao aq am j;generalize R1.bytes.2=R2 at *;generalize R1.bytes.1=b5 at *;obtain⟨Z,U,rfl,-⟩:=zAN aa.o;have HW:=zW (((z.setCell ⟨l,2,none⟩ (.int .i64 (m:Int))).setCell ⟨l,3,none⟩ (.slice Z b5.length U)).heap[r]?=z.heap[r]?) ((zAK _ ar).trans (zAK _ ar));have J:=zW (Chg (fun k=>k=l) z ((z.setCell ⟨l,2,none⟩ (.int .i64 (m:Int))).setCell ⟨l,3,none⟩ (.slice Z b5.length U))) ((Chg.setCell z ⟨l,2,none⟩ _).trans (Chg.setCell _ ⟨l,3,none⟩ _) fun _ _ e=>e);have an:((z.setCell ⟨l,2,none⟩ (.int .i64 (m:Int))).setCell ⟨l,3,none⟩ (.slice Z b5.length U)).cell? ⟨l,2,none⟩=some (.int .i64 (m:Int)):=by
    obtain⟨aj,ev',j,-⟩:=O.o.cells;have V:=zAH j 2 (.int .i64 (m:Int));have h2:=zAH V 3 (.slice Z b5.length U);exact zAB h2 (by simp)
   have ad:=zh an;have HS:=zW (St w ((z.setCell ⟨l,2,none⟩ (.int .i64 (m:Int))).setCell ⟨l,3,none⟩ (.slice Z b5.length U)) d D F∧Same F w1 ((z.setCell ⟨l,2,none⟩ (.int .i64 (m:Int))).setCell ⟨l,3,none⟩ (.slice Z b5.length U))) (by
    obtain⟨own,aj,ev',aB,Q,hS,hn,hl⟩:=O.o;refine⟨(hS.move J.o (fun k _ e=>⟨.inl (e▸Q.ol),(hn k (e▸Q.ol)).1⟩) fun k t=>⟨.inl t,Nat.lt_of_lt_of_le (hS.flt t) J.o.size⟩).less fun _ h=>.inr h,fun k t=>?_⟩;have V:=H.o.same (y.o.trans (N.o.mono y.o.size)) k t;exact(J.o.block k (hl k t) fun e=>(hn l Q.ol).2 (e▸t)).trans V)
   clear an
   by_cases Y:R2.whole=false
   ·have s:=zh (ah.o _ HW.o);rw[Y]at s;have I:=zW (ImgTold w w1 l d pre D F (zA2 o) (.returned (.int .i64 3)) _) (by rw[G.o,if_pos (.inl Y)];exact⟨rfl,(fun h=>by cases h),HS.o⟩);clear Y G;go_wp2_with fail;refine s.o.mono ?_;rintro e w6 ⟨rfl,rfl⟩;go_wp2_with fail;go_ret;exact I.o
   ·have s:=zh (ah.o _ HW.o);rw[show R2.whole=true by cases h:R2.whole<;>simp_all]at s
    by_cases hm:1099511627776<m
    ·have I:=zW (ImgTold w w1 l d pre D F (zA2 o) (.returned (.int .i64 3)) _) (by rw[G.o,if_pos (.inr hm)];exact⟨rfl,(fun h=>by cases h),HS.o⟩);have ay:=ad.o;clear Y G;go_wp2_with fail;refine s.o.mono ?_;rintro e w6 ⟨rfl,rfl⟩;go_wp2_with fail;go_ret;exact I.o
    ·have I:=zW (ImgTold w w1 l d pre D F (zA2 o) (.returned (.int .i64 0)) _) (by
      rw[G.o,if_neg (fun h=>h.elim Y hm)];refine⟨rfl,fun _=>?_,HS.o⟩;obtain⟨own,aj,ev',aB,Q,hS,hn,hl⟩:=H.o;have M:=y.o.trans (N.o.mono y.o.size);exact(zAm.turned hS hn hl (img_set (Q.below M) aa.o (fun k t ho=>by have V:=af.o k t;have h2:=Q.olt k ho;omega) (by omega) aw.o) (((Chg.of_below M).mono fun _ _ h=>h.elim).trans J.o fun k _ e=>e▸Q.ol) fun k t=>t.imp id (af.o k)).1)
     have ay:=ad.o;clear Y G;go_wp2_with fail;refine s.o.mono ?_;rintro e w6 ⟨rfl,rfl⟩;go_wp2_with fail;go_ret;exact I.o
  ·have G:=zh (imageOf_e X h0);have aE:((loadE o:Int)==7)=false:=by simp;omega
   have aD:((loadE o:Int) != 0)=true:=by simp;omega
   clear X h0;generalize loadE o=k at *
   go_enter func74,ntmps74
   go_wp2_with fail;refine ost (fun w':World=>w'.cell? ⟨l,0,none⟩=some (.pointer (some ⟨d,0,none⟩))∧w'.cell? ⟨l,1,none⟩=some (.string pre)) 12 (⟨R,S⟩) fun b=>?_;generalize w1.drew=W1 at *;refine Pl [0,1,2,3,4] ?_
   iterate 5 (refine Pc rfl ?_;simp only[uZ])
   refine Pn ?_;refine oon 5 rfl fun K i=>?_;go_wp2_with fail;refine(zBT ⟨b.1,b.2,T⟩).mono ?_;rintro e w9 ⟨rfl,rfl⟩;go_wp2_with fail;refine i.o _ _ (b) fun b=>?_;clear i
   try simp only[uZ]
   refine oon 6 rfl fun K i=>?_;go_wp2_with fail;refine A.o.mono ?_;rintro e w2 ⟨v,rfl,C,E,p,B⟩;have a:=zW (w2.cell? ⟨l,0,none⟩=some (.pointer (some ⟨d,0,none⟩))∧w2.cell? ⟨l,1,none⟩=some (.string pre)) (⟨(p.cell (World.block_lt_of_cell? _ _ b.1)).trans b.1,(p.cell (World.block_lt_of_cell? _ _ b.2)).trans b.2⟩);have y:=zW (Below w1.heap.size w1 w2) (q.o.trans (p.mono q.o.size));have Hv:=zh C;have c:(zCe o).length=n:=hn;obtain⟨pv,cv,rfl,-⟩:=zAN C;rw[c];clear C E p B;go_wp2_with fail;refine i.o _ _ (a.o) fun b=>?_;clear i
   try simp only[uZ]
   refine Pl [7,8,9,10,11] ?_
   iterate 5 (refine Pc rfl ?_;simp only[uZ])
   refine Pn ?_;refine odn ?_;have I:=zh (img_end H.o y.o k _ G.o);go_wp2_with fail;go_ret;exact I.o
end
structure zCD (w:World)(v:Value)(vs:List Value)(ls:List Bs):Prop where
 row:OwnR w 39 1 v ls.length vs
 has:∀(i:Nat) u b,vs[i]?=some u→ls[i]?=some b→zA4 w 5 u b
 sep:∀u∈vs,∀k,u.ownBlock=some k→v.ownBlock≠some k
theorem zAU (w:World)(o:Obj):Below w.heap.size w (w.alloc o):=(Below.refl _ _).alloc (Nat.le_refl _) o
theorem zCn (w:World)(u:Value)(e:TypeId)(fr:Nat×Nat):zBH (w.alloc (.cells #[u] e fr)) 1 (.slice (some ⟨w.heap.size,0,none⟩) 1 1) 1 [u]:=by
 refine⟨rfl,some ⟨w.heap.size,0,none⟩,1,rfl,fun e=>(by cases e),fun a b i x c=>?_⟩;cases b;rw[add_zero];refine zAB (zAF w _) ?_;simpa using c
section
variable {w w0 w1:World} {v v' u:Value} {vs:List Value} {ls:List Bs} {b:Bs}
theorem zCD.len (h:zCD w v vs ls):vs.length=ls.length:=by have:=h.row.1;omega
theorem zCD.below (h:zCD w v vs ls)(d:Below w.heap.size w w1):zCD w1 v vs ls :=
 ⟨h.row.keep fun k c=>d.block k (OwnR.lt h.row c),fun i u b j f=>OwnR.keep (h.has i u b j f) fun k c=>d.block k (OwnR.lt (h.has i u b j f) c),h.sep⟩
theorem zCD.nil (w:World):zCD w (.slice none 0 0) [] []:=⟨OwnR.nil _ _ _,fun i u b c=>(by simp at c),fun u c=>(by simp at c)⟩
theorem mem_rows (h:zCD w v vs ls){u:Value}(f:u∈vs):∃b,zA4 w 5 u b:=by
 obtain⟨i,c,rfl⟩:=List.getElem_of_mem f;have d:i<ls.length:=by rw[←h.len];exact c
 exact⟨ls[i],h.has i _ _ (List.getElem?_eq_getElem c) (List.getElem?_eq_getElem d)⟩
theorem zCD.push (h:zCD w0 v vs ls)(z:zA4 w0 5 u b)(o:∀k,u.ownBlock=some k→v.ownBlock≠some k)(p:OwnR w1 39 1 v' (ls.length+1) (vs++[u]))(a:w0.grownBy w1 v.ownBlock)(n:v'.ownBlock=v.ownBlock∨∃g,v'.ownBlock=some g∧w0.heap.size≤g) :
  zCD w1 v' (vs++[u]) (ls++[b]):=by
 have y:=h.len;have f:∀x c,zA4 w0 5 x c→(∀k,x.ownBlock=some k→v.ownBlock≠some k)→zA4 w1 5 x c:=fun x c d t=>OwnR.keep d fun k f=>a.block k (OwnR.lt d f) fun e=>t k f e.symm;have q:∀x c,zA4 w0 5 x c→(∀k,x.ownBlock=some k→v.ownBlock≠some k)→∀k,x.ownBlock=some k→v'.ownBlock≠some k:=fun x c d t k f e=>by
  rcases n with r|⟨g,r,A⟩
  ·exact t k f (r▸e)
  ·rw[e]at r;cases r;have:=OwnR.lt d f;omega
 refine⟨by rw[List.length_append];exact p,fun i x c d j=>?_,fun x d k m=>?_⟩
 ·by_cases B:i<vs.length
  ·rw[List.getElem?_append_left B]at d;rw[List.getElem?_append_left (by omega)]at j;exact f x c (h.has i x c d j) (h.sep x (List.mem_of_getElem? d))
  ·rw[List.getElem?_append_right (by omega)]at d;rw[List.getElem?_append_right (by omega)]at j;have s:i-vs.length=0:=by
    have:=(List.getElem?_eq_some_iff.1 d).1;simp at this;omega
   rw[s]at d;rw[show i-ls.length=0 by omega]at j;cases d;cases j;exact f u b z o
 ·rcases List.mem_append.1 d with d|d
  ·obtain⟨c,j⟩:=mem_rows h d;exact q x c j (h.sep x d) k m
  ·have:x=u:=by simpa using d
   subst this;exact q x b z o k m
end
def NewRows (B:Nat)(v:Value)(vs:List Value):Prop:=(∀k,v.ownBlock=some k→B≤k)∧∀u∈vs,∀k,u.ownBlock=some k→B≤k
theorem NewRows.push {B:Nat}{w0:World}{v v' u:Value}{vs:List Value}(h:NewRows B v vs)(i:∀j,u.ownBlock=some j→B≤j)(d:v'.ownBlock=v.ownBlock∨∃g,v'.ownBlock=some g∧w0.heap.size≤g)(k:B≤w0.heap.size):NewRows B v' (vs++[u]):=by
 refine⟨fun j c=>?_,fun x b j c=>?_⟩
 ·rcases d with e|⟨g,e,f⟩
  ·exact h.1 j (e▸c)
  ·rw[c]at e;cases e;omega
 ·rcases List.mem_append.1 b with b|b
  ·exact h.2 x b j c
  ·rw[List.mem_singleton]at b;exact i j (b▸c)
def Scanned (w:World)(b:Bs)(e:Ending)(w':World):Prop:=∃v vs,e=.returned (.tuple #[v,.int .i64 ((zDT b).2:Int)])∧zCD w' v vs (zDT b).1∧NewRows w.heap.size v vs∧Below w.heap.size w w'
def ScanRel (w:World)(b:Bs)(n:Nat)(x y:Value)(wr:World):Prop:=∃(k:Nat) (v:Value) (vs:List Value) (ls:List Bs),k≤n∧y=.int .i64 k∧v=x∧ls.length≤k∧zCD wr v vs ls∧NewRows w.heap.size v vs∧Below w.heap.size w wr∧(zDT b).1=ls++(zDT (b.drop k)).1∧(zDT b).2=k+(zDT (b.drop k)).2
theorem scan_calls {w:World}{p:Option Addr}{n c:Nat}{b:Bs}(h:zAf w (.slice p n c) b)(K:n≤c)(hl:b.length≤1073741824) :
  Calls prog 137 #[.slice p n c] w (Scanned w b):=by
 obtain⟨i1,ae,-,ah,-⟩:=info_parts (show(prog.info? 5).map (fun i=>(i.zero,i.size,i.bytes))=some (some (.int .u8 0),1,1) by kernel_rfl);obtain⟨i0,hi,ai,aj,ak⟩:=info_parts (show(prog.info? 39).map (fun i=>(i.zero,i.size,i.bytes))=some (some (.slice none 0 0),1,24) by kernel_rfl);have hn:b.length=n:=by obtain⟨_,_,e⟩:=h.slice;simp only[Value.slice.injEq]at e;exact e.2.1.symm
 have al:n≤1073741824:=by omega
 have H:=zh h;have Hn:=zh hn;have ac:=zh K;clear h hn K hl
 go_enter func137,ntmps137
 go_wp2_with fail
 go_loopw [4,5] (ScanRel w b n) (fun _ y _=>n-(intOf y).toNat)
 case atStart=>exact⟨0,_,[],[],Nat.zero_le _,rfl,rfl,Nat.zero_le _,zCD.nil _,⟨fun k hk=>(by cases hk),fun u hu=>(by simp at hu)⟩,Below.refl _ _,by simp,by simp⟩
 case round =>
  obtain⟨k,v,vs,ls,hk,rfl,rfl,am,B,A,Y,f,r⟩:=hrel
  by_cases af:k<n
  ·obtain⟨r0,ag⟩:∃r0,(Value.slice p n c).ownBlock≠some r0:=by
    cases(Value.slice p n c).ownBlock with
    | none=>exact⟨0,by simp⟩
    | some g=>exact⟨g+1,by simp⟩
   obtain⟨p',c',ao,hh,Z,-⟩:=run_tail (P:=prog) underlying39 ae ah (zAf.below H.o Y) ac.o r0 k ag (Nat.le_of_lt af);have S:=zh (dec_calls hh Z (by rw[List.length_drop,Hn.o];omega));have s:=zh (And.intro B (And.intro A (And.intro Y (And.intro f r))));have ad:(b.drop k).length=n-k:=by rw[List.length_drop,Hn.o]
   clear hh Z B A Y f r
   by_cases F:decE (b.drop k)=0
   ·have hL:=zEZ F;rw[ad]at hL;have M:=zh (scan_go F);rw[List.drop_drop]at M;unfold Decoded at S;rw[F]at S;generalize decL (b.drop k)=L at *;generalize decB (b.drop k)=x at *;clear F;go_wp2_with fail;refine S.o.mono ?_;rintro e w2 ⟨v2,rfl,O,N,t⟩;have D:=s.o.1.below t;have W:=zh O;have U:=zW (∀j,v2.ownBlock=some j→v.ownBlock≠some j) (fun j G e=>by have h1:=N j G;have h2:=OwnR.lt s.o.1.row e;omega);have ab:=zW (∀j,v2.ownBlock=some j→w.heap.size≤j) fun j G=>Nat.le_trans s.o.2.2.1.size (N j G);have J:=zh t;have T:=zh D;obtain⟨R,Q,rfl,-⟩:=zAN O;clear O N t D;generalize hq:x.length=q at *;have Hq:=zh hq;generalize hm:ls.length=m at *;have Hm:=zh hm;clear hq hm;have C:=zh (show OwnR w2 39 1 v m vs by have:=T.o.row;rwa[Hm.o]at this);go_wp2_with (at_builtin;have X:=C.o.keep (w':=w2.alloc (.cells #[.slice R q Q] 39)) (fun j G=>(zAU w2 _).block j (OwnR.lt C.o G));have aa:=zCn w2 (.slice R q Q) 39 (0,0);refine zAc _ rfl (.tmp 23) (.tmp 25) 128 rfl 39 i0 (.slice none 0 0) 1 24 underlying128 hi ai aj ak rfl (by decide) v m _ rfl X (.slice (some ⟨w2.heap.size,0,none⟩) 1 1) 1 _ rfl aa (by simp[Value.oneCell']) (by unfold maxLen;omega) (by omega) ?_;clear X aa;intro v3 w3 a d z;go_loud (have hE:=zCD.push (b:=x) (T.o.below (zAU w2 (.cells #[.slice R q Q] 39))) (OwnR.keep W.o fun j G=>(zAU w2 _).block j (OwnR.lt W.o G)) U.o (by rw[Hm.o];exact a) d z;have hN:=NewRows.push (u:=.slice R q Q) s.o.2.1 ab.o z (by have h1:=s.o.2.2.1.size;have h2:=J.o.size;have h3:=(zAU w2 (.cells #[.slice R q Q] 39)).size;omega);have hB:Below w.heap.size w w3:=by {have h1:=s.o.2.2.1.trans ((J.o.trans ((zAU w2 (.cells #[.slice R q Q] 39)).mono J.o.size)).mono s.o.2.2.1.size);exact((Chg.of_below h1).trans (Chg.of_grown d) fun j G e=>by have h5:=s.o.2.1.1 j e.symm;omega).below (Nat.le_refl _) fun _ _=>id};have I:=zh (And.intro hE (And.intro hN hB));clear hE hN hB d z;obtain⟨p3,q3,rfl⟩:=OwnR.shape a;clear a))
    go_roundw
    case rel=>exact⟨k+L,_,_,ls++[x],by omega,by go_num,rfl,by rw[List.length_append,Hm.o];simp;omega,I.o.1,I.o.2.1,I.o.2.2,by rw[s.o.2.2.2.1,M.o];simp,by rw[s.o.2.2.2.2,M.o];simp;omega⟩
    case measure=>simp[intOf];omega
   ·have V:=zh (zC0 (.inr F));have an:((decE (b.drop k):Int) != 0)=true:=by simp;omega
    unfold Decoded at S;generalize decE (b.drop k)=E at *;generalize decL (b.drop k)=L at *;go_wp2_with fail;refine S.o.mono ?_;rintro e w2 ⟨v2,rfl,-,-,t⟩;have I:=zW (Scanned w b (.returned (.tuple #[v,.int .i64 (k:Int)])) w2) (⟨v,vs,by rw[s.o.2.2.2.2,V.o];rfl,by rw[s.o.2.2.2.1,V.o,List.append_nil];exact s.o.1.below t,s.o.2.1,s.o.2.2.1.trans (t.mono s.o.2.2.1.size)⟩);clear t;go_wp2_with fail
    go_ret2
    exact I.o
  ·have F:b.drop k=[]:=List.drop_of_length_le (by rw[Hn.o];omega);rw[F,zC0 (.inl rfl)]at f r;have I:=zW (Scanned w b (.returned (.tuple #[v,.int .i64 (k:Int)])) wr) (⟨v,vs,by rw[r];rfl,by rw[f,List.append_nil];exact B,A,Y⟩);clear B A Y f r F;go_wp2_with fail
   go_ret2
   exact I.o
end Go.Proofs.YtmcanphlgkolcaaGreatDoor
namespace Go.Sat
open Go Go.RowKit
theorem zCk {P:Program}{l:List Oper}{Q:Exit→Act→World→Prop}{c:Region.Mode}{S:World→Prop}{fuel:Nat}{b:Array Bool}{a:Act}{w:World}(i j:Nat){o p:Oper}{t v:List Oper}(f:l.drop i=o::t)(k:l.drop j=p::v)(s:Region.ready c l.toArray b=[i,j])
  (m:Region.wanted o (yielded l.toArray a.tmps)=true) (n:Region.wanted p (yielded l.toArray a.tmps)=true)
  (q:∀K:Act→World→Prop,Shut (∀a w,S w→(S w→wpAnyH P c l.toArray Q S fuel (b.setIfInBounds i true) a w)→K a w)→Oper.wp P o a w K Q)
  (r:∀K:Act→World→Prop,Shut (∀a w,S w→(S w→wpAnyH P c l.toArray Q S fuel (b.setIfInBounds j true) a w)→K a w)→Oper.wp P p a w K Q):wpAnyH P c l.toArray Q S (fuel+1) b a w :=
 wpAnyH_ready s (by simp) (AllReadyH.cons (zBv f) (fun K d=>by rw[if_pos m];exact q K d) (AllReadyH.cons (zBv k) (fun K d=>by rw[if_pos n];exact r K d) AllReadyH.nil))
end Go.Sat
namespace Go.Proofs.YtmcanphlgkolcaaGreatDoor
open Go.RowKit Go.Sat Go.Maps
section
variable {w w1 w2:World} {l d:Nat} {pre:ByteArray} {D:zAD} {M:zAl} {F F':Nat→Prop}
theorem zAm.taken {own c:Nat→Prop}{p:zAl}{f ev':Value}{j:List Value}(hS:St w w1 d D (fun k=>own k∨F' k))(hn:∀k,own k→w.heap.size≤k∧¬F' k)(n:∀k,F' k→k<w1.heap.size)(hF:∀k,F k→F' k)
  (i:zBd w2 l d pre c p f ev' j) (m:Chg own w1 w2) (q:∀k,c k→own k∨w1.heap.size≤k∨(F' k∧¬F k∧w.heap.size≤k)):zAm w w2 l d pre D p F∧Same F w1 w2:=by
 refine⟨⟨c,f,ev',j,i,hS.move m (fun k _ b=>⟨.inl b,(hn k b).1⟩) (fun k b=>?_),fun k b=>?_,fun k b=>Nat.lt_of_lt_of_le (n k (hF k b)) m.size⟩,fun k b=>m.block k (n k (hF k b)) fun r=>(hn k r).2 (hF k b)⟩
 ·rcases b with b|b
  ·refine⟨?_,i.olt k b⟩;rcases q k b with h|h|h
   ·exact .inl (.inl h)
   ·exact .inr h
   ·exact .inl (.inr h.1)
  ·exact⟨.inl (.inr (hF k b)),Nat.lt_of_lt_of_le (n k (hF k b)) m.size⟩
 ·rcases q k b with h|h|h
  ·exact⟨(hn k h).1,fun o=>(hn k h).2 (hF k o)⟩
  ·exact⟨Nat.le_trans hS.below.size h,fun o=>by have:=n k (hF k o);omega⟩
  ·exact⟨h.2.2,h.2.1⟩
theorem zDB {own:Nat→Prop}{J ev v' u:Value}{vs:List Value}{w0:World}{b:Bs}(j:zBd w1 l d pre own M J ev vs)(D:zA4 w1 5 u b)(B:∀k,u.ownBlock=some k→¬own k)(O:b.length≤1073741824)(H:M.last+1≤1099511627776)
  (r:Below w1.heap.size w1 w0) (s:OwnR w2 39 1 v' (M.entries.length+1) (vs++[u])) (C:w0.grownBy w2 ev.ownBlock) (a:v'.ownBlock=ev.ownBlock∨∃g,v'.ownBlock=some g∧w0.heap.size≤g) :
  zBd (w2.setCell ⟨l,4,none⟩ v') l d pre (fun k=>own k∨u.ownBlock=some k∨v'.ownBlock=some k) {M with entries:=M.entries++[b] } J v' (vs++[u])∧Chg own w1 (w2.setCell ⟨l,4,none⟩ v')∧(∀k,v'.ownBlock=some k→own k∨w1.heap.size≤k) ∧
  w2.heap[l]?=w1.heap[l]?:=by
 have T:=r.size;have Q:=C.size;have z:w2.heap[l]?=w1.heap[l]?:=(C.block l (by have:=j.olt l j.ol;omega) fun e=>(j.oe l e.symm).2 rfl).trans (r.block l (j.olt l j.ol));have p:∀k,v'.ownBlock=some k→ev.ownBlock=some k∨w1.heap.size≤k:=fun k f=>by
  rcases a with e|⟨g,e,R⟩
  ·exact .inl (e▸f)
  ·rw[f]at e;cases e;exact .inr (by omega)
 have v:∀k,v'.ownBlock=some k→k≠l:=fun k f e=>by
  rcases p k f with h|h
  ·exact(j.oe k h).2 e
  ·have:=j.olt l j.ol;omega
 have A:∀k,u.ownBlock=some k→k≠l:=fun k f e=>B k f (e▸j.ol);have n:∀k,k<w1.heap.size→ev.ownBlock≠some k→k≠l→(w2.setCell ⟨l,4,none⟩ v').heap[k]?=w1.heap[k]?:=fun k f E G =>
  (zAK v' G).trans ((C.block k (by omega) fun e=>E e.symm).trans (r.block k f))
 have q:∀k,k<w1.heap.size→ev.ownBlock≠some k→v'.ownBlock≠some k:=fun k f E e=>by
  rcases p k e with h|h
  ·exact E h
  ·omega
 have t:∀k,u.ownBlock=some k→ev.ownBlock≠some k:=fun k f e=>B k f (j.oe k e).1;refine⟨⟨?_,?_,?_,?_,.inl j.ol,?_,fun k f=>⟨.inr (.inr f),v k f⟩,?_,?_,?_,j.psz,⟨j.big.1,?_⟩⟩,?_,fun k f=>(p k f).imp (fun h=>(j.oe k h).1) id,z⟩
 ·have L:=zAH (z.trans j.cells) 4 v';simpa using L
 ·exact OwnR.keep j.data fun k f=>n k (OwnR.lt j.data f) (j.od k f).2.2 (j.od k f).2.1
 ·have:(M.entries++[b]).length=M.entries.length+1:=by simp
  show OwnR _ _ _ _ (M.entries++[b]).length _
  rw[this];exact s.keep fun k f=>zAK v' (v k f)
 ·intro i x c m P;have o:(M.entries++[b])[i]?=some c:=P
  by_cases S:i<vs.length
  ·rw[List.getElem?_append_left S]at m;rw[List.getElem?_append_left (by have:=j.len;omega)]at o;have y:=List.mem_of_getElem? m;exact OwnR.keep (j.rows i x c m o) fun k f=>n k (j.olt k (j.ov x y k f).1) (j.ov x y k f).2.2 (j.ov x y k f).2.1
  ·rw[List.getElem?_append_right (by omega)]at m;rw[List.getElem?_append_right (by have:=j.len;omega)]at o;have F:i-vs.length=0:=by
    have:=(List.getElem?_eq_some_iff.1 m).1;simp at this;omega
   rw[F]at m;rw[show i-M.entries.length=0 by have:=j.len;omega]at o;cases m;cases o;exact OwnR.keep D fun k f=>n k (OwnR.lt D f) (t k f) (A k f)
 ·exact fun k f=>⟨.inl (j.od k f).1,(j.od k f).2.1,q k (OwnR.lt j.data f) (j.od k f).2.2⟩
 ·intro x m k f;rcases List.mem_append.1 m with m|m
  ·exact⟨.inl (j.ov x m k f).1,(j.ov x m k f).2.1,q k (j.olt k (j.ov x m k f).1) (j.ov x m k f).2.2⟩
  ·have:x=u:=by simpa using m
   subst this;exact⟨.inr (.inl f),A k f,q k (OwnR.lt D f) (t k f)⟩
 ·intro k f;have N:k<w2.heap.size:=by
   rcases f with h|h|h
   ·have:=j.olt k h;omega
   ·have:=OwnR.lt D h;omega
   ·exact OwnR.lt s h
  simpa[World.setCell]using N
 ·show M.base+(M.entries++[b]).length≤_
  rw[List.length_append];unfold zAl.last at H;simp;omega
 ·intro x m;have I:x∈M.entries++[b]:=m;rcases List.mem_append.1 I with h|h
  ·exact j.big.2 x h
  ·have:x=b:=by simpa using h
   rw[this];exact O
 ·exact(((Chg.of_below r).mono fun _ _ h=>h.elim).trans (Chg.of_grown C) fun k _ e=>(j.oe k e.symm).1).trans (Chg.setCell w2 ⟨l,4,none⟩ v') fun k _ e=>by rw[e];exact j.ol
end
def zC3 (l:Nat)(la:Int):Obj:=.cells #[.pointer (some ⟨l,0,none⟩),.int .i64 la] 219 (0,0)
def zBB (w w1:World)(l d:Nat)(pre:ByteArray)(D:zAD)(M:zAl)(F:Nat→Prop)(t:Nat)(la:Int)(b:Bs)(e:Ending)(w':World):Prop :=
 St w w' d D F∧(∀k,F k→k≠t→w'.heap[k]?=w1.heap[k]?)∧match zC2 M.base (la,M.entries) b with
 | none=>e=.returned (.bool false)
 | some s=>e=.returned (.bool true)∧zAm w w' l d pre D {M with entries:=s.2} F∧w'.heap[t]?=some (zC3 l s.1)
section
variable {w w1 w2:World} {l d t:Nat} {pre:ByteArray} {D:zAD} {M:zAl} {F F':Nat→Prop} {la:Int} {b:Bs}
theorem take1_no {base:Nat}{s:Int×List Bs}(h:(Rd.num ⟨b,false⟩).2.bytes.2.whole=false∨(Rd.num ⟨b,false⟩).1<1∨1099511627776<(Rd.num ⟨b,false⟩).1∨(0≤s.1∧((Rd.num ⟨b,false⟩).1:Int)≠s.1+1)):zC2 base s b=none:=by
 unfold zC2;rw[if_pos h]
theorem take1_old {base:Nat}{s:Int×List Bs}(h:¬((Rd.num ⟨b,false⟩).2.bytes.2.whole=false∨(Rd.num ⟨b,false⟩).1<1∨1099511627776<(Rd.num ⟨b,false⟩).1∨(0≤s.1∧((Rd.num ⟨b,false⟩).1:Int)≠s.1+1)))(c:(Rd.num ⟨b,false⟩).1≤base):zC2 base s b=some (((Rd.num ⟨b,false⟩).1:Int),s.2):=by
 unfold zC2;rw[if_neg h,if_pos c]
theorem take1_gap {base:Nat}{s:Int×List Bs}(h:¬((Rd.num ⟨b,false⟩).2.bytes.2.whole=false∨(Rd.num ⟨b,false⟩).1<1∨1099511627776<(Rd.num ⟨b,false⟩).1∨(0≤s.1∧((Rd.num ⟨b,false⟩).1:Int)≠s.1+1)))(c:¬(Rd.num ⟨b,false⟩).1≤base)(d:(Rd.num ⟨b,false⟩).1≠base+s.2.length+1):zC2 base s b=none:=by
 unfold zC2;rw[if_neg h,if_neg c,if_pos d]
theorem take1_new {base:Nat}{s:Int×List Bs}(h:¬((Rd.num ⟨b,false⟩).2.bytes.2.whole=false∨(Rd.num ⟨b,false⟩).1<1∨1099511627776<(Rd.num ⟨b,false⟩).1∨(0≤s.1∧((Rd.num ⟨b,false⟩).1:Int)≠s.1+1)))(c:¬(Rd.num ⟨b,false⟩).1≤base)(d:¬(Rd.num ⟨b,false⟩).1≠base+s.2.length+1):zC2 base s b=some (((Rd.num ⟨b,false⟩).1:Int),s.2++[(Rd.num ⟨b,false⟩).2.bytes.1]):=by
 unfold zC2;rw[if_neg h,if_neg c,if_neg d]
theorem zDz {x:Option (Int×List Bs)}(c:x=zC2 M.base (la,M.entries) b)(hS:St w w2 d D F)(hF:∀k,F k→k≠t→w2.heap[k]?=w1.heap[k]?)(h:x=none):zBB w w1 l d pre D M F t la b (.returned (.bool false)) w2:=by
 unfold zBB;rw[←c,h];exact⟨hS,hF,rfl⟩
theorem take_some {x:Option (Int×List Bs)}(f:x=zC2 M.base (la,M.entries) b){s:Int×List Bs}(c:zAm w w2 l d pre D {M with entries:=s.2} F)(hF:∀k,F k→k≠t→w2.heap[k]?=w1.heap[k]?)(ht:w2.heap[t]?=some (zC3 l s.1))(h:x=some s):zBB w w1 l d pre D M F t la b (.returned (.bool true)) w2:=by
 unfold zBB;rw[←f,h];exact⟨c.stF,hF,rfl,c,ht⟩
theorem takes_calls (h:zAm w w1 l d pre D M F)(ht:w1.heap[t]?=some (zC3 l la))(av:F t)(bw:w.heap.size≤t){p:Option Addr}{n c:Nat}(hx:zAf w1 (.slice p n c) b)(hb:b.length≤1073741824)(bB:-1≤la)(bC:la≤1099511627776) :
  Calls prog 138 #[.pointer (some ⟨t,0,none⟩),.slice p n c] w1 (zBB w w1 l d pre D M F t la b):=by
 obtain⟨i0,hi,aw,ax,ay⟩:=info_parts (show(prog.info? 39).map (fun i=>(i.zero,i.size,i.bytes))=some (some (.slice none 0 0),1,24) by kernel_rfl);have aX:=zh (zEN hx (by omega));have H:=zh h;have Ht:=zh ht;have bk:t<w1.heap.size:=h.flt av;have Hb:=zh hb;have hn:b.length=n:=by obtain⟨_,_,e⟩:=hx.slice;simp only[Value.slice.injEq]at e;exact e.2.1.symm
 have Y:=zh av;have bf:l≠t:=fun e=>by
  obtain⟨own,dv,ev,vs,Q,-,hn,-⟩:=h;exact(hn l Q.ol).2 (e▸av)
 clear h hx hb ht hn av
 go_enter func138,ntmps138
 go_wp2_with fail;refine aX.o.mono ?_;rintro e w3 ⟨r,rfl,hr,bj,bb⟩;have aW:=zW (Calls prog 119 #[.pointer (some ⟨r,0,none⟩)] w3 (zDF w3 r ⟨b,false⟩)) (by obtain⟨_,_,_,h⟩:=hr;exact zEl h);have aB:=zh bb;have br:=zh bj;clear hr bj bb;go_wp2_with fail;refine aW.o.mono ?_;rintro e w4 ⟨rfl,bh,bc⟩;have bq:=zh (rbytes_calls bh);have aT:=zh bc;have bE:=Rd.num_le ⟨b,false⟩;have aS:=zW ((Rd.num ⟨b,false⟩).2.bytes.1.length≤1073741824) (Nat.le_trans (Rd.bytes_len _) (Nat.le_trans (Rd.num_rest _) Hb.o));have ar:=zh (fun s=>take1_no (b:=b) (base:=M.base) (s:=s));have aQ:=zh (fun s=>take1_old (b:=b) (base:=M.base) (s:=s));have aM:=zh (fun s=>take1_gap (b:=b) (base:=M.base) (s:=s));have aO:=zh (fun s=>take1_new (b:=b) (base:=M.base) (s:=s));clear bh bc;generalize (Rd.num ⟨b,false⟩).1=k at *;generalize (Rd.num ⟨b,false⟩).2=R1 at *;go_wp2_with fail;refine bq.o.mono ?_;rintro e P ⟨v5,rfl,bl,bg,bi,bd⟩;have af:=zW (Below w1.heap.size w1 P) (aB.o.trans ((aT.o.trans bd fun _ _ e=>e).below aB.o.size fun k hk e=>by have:=br.o;omega));have ad:=zW (∀k,v5.ownBlock=some k→w1.heap.size≤k) (fun k hk=>by have h1:=bg k hk;have h3:=aB.o.size;have h4:=aT.o.size;omega);have G:=zh (zCP bi.hd);have aA:=zh bl;have ao:=(af.o.block t bk).trans Ht.o;have bn:P.cell? ⟨t,0,none⟩=some (.pointer (some ⟨l,0,none⟩)):=zAB ao rfl;have bo:P.cell? ⟨t,1,none⟩=some (.int .i64 la):=zAB ao rfl;have aY:=zAE ao 1;have R:=zW (St w P d D F∧∀k,F k→k≠t→P.heap[k]?=w1.heap[k]?) (⟨(H.o.next af.o).stF,fun k hk _=>af.o.block k (H.o.flt hk)⟩);have HT:=zW (zC2 M.base (la,M.entries) b=zC2 M.base (la,M.entries) b) rfl;have bp:=zh ao;clear bl bg bi bd ao;generalize R1.bytes.2=R2 at *;generalize R1.bytes.1=b5 at *;obtain⟨X,T,rfl,-⟩:=zAN aA.o
 by_cases hw:R2.whole=false
 ·rw[hw]at G;have C:=zW (zBB w w1 l d pre D M F t la b (.returned (.bool false)) P) (zDz rfl R.o.1 R.o.2 (ar.o _ (.inl hw)));go_wp2_with fail;refine G.o.mono ?_;rintro e I ⟨rfl,rfl⟩;go_wp2_with fail;go_ret;exact C.o
 ·have bA:R2.whole=true:=by cases h:R2.whole<;>simp_all
  rw[bA]at G
  by_cases h1:k<1
  ·have C:=zW (zBB w w1 l d pre D M F t la b (.returned (.bool false)) P) (zDz rfl R.o.1 R.o.2 (ar.o _ (.inr (.inl h1))));go_wp2_with fail;refine G.o.mono ?_;rintro e I ⟨rfl,rfl⟩;go_wp2_with fail;go_ret;exact C.o
  ·by_cases h2:1099511627776<k
   ·have C:=zW (zBB w w1 l d pre D M F t la b (.returned (.bool false)) P) (zDz rfl R.o.1 R.o.2 (ar.o _ (.inr (.inr (.inl h2)))));go_wp2_with fail;refine G.o.mono ?_;rintro e I ⟨rfl,rfl⟩;go_wp2_with fail;go_ret;exact C.o
   ·have bG:IntKind.i64.wrap (la+1)=la+1:=IntWalk.i64_in _ (by omega)
    by_cases h3:0≤la∧(k:Int)≠la+1
    ·obtain⟨aZ,ba⟩:=h3;have ae:decide (0≤la)=true:=by simpa using aZ
     have aK:((k:Int) != la+1)=true:=by simpa using ba
     have C:=zW (zBB w w1 l d pre D M F t la b (.returned (.bool false)) P) (zDz rfl R.o.1 R.o.2 (ar.o _ (.inr (.inr (.inr ⟨aZ,ba⟩)))));go_wp2_with fail;refine G.o.mono ?_;rintro e I ⟨rfl,rfl⟩;go_wp2_with fail;go_ret;exact C.o
    ·have ag:=zW (¬(R2.whole=false∨k<1∨1099511627776<k∨(0≤la∧(k:Int)≠la+1))) (by rintro(h|h|h|h);exact hw h;exact h1 h;exact h2 h;exact h3 h);have aN:=zW (zAm w P l d pre D M (fun k=>F k∨(Value.slice X b5.length T).ownBlock=some k)) (H.o.more af.o fun k hk=>hk.imp id fun e=>⟨ad.o k e,OwnR.lt aA.o e⟩);have Z:=zW (zAm w (P.setCell ⟨t,1,none⟩ (.int .i64 (k:Int))) l d pre D M (fun k=>F k∨(Value.slice X b5.length T).ownBlock=some k)) (aN.o.move (Chg.setCell P ⟨t,1,none⟩ _) (fun j _ e=>by rw[e];exact⟨.inl Y.o,bw⟩) fun j B=>⟨.inl B,by have:=aN.o.flt B;simpa[World.setCell]using this⟩);have au:=zW ((P.setCell ⟨t,1,none⟩ (.int .i64 (k:Int))).heap[t]?=some (zC3 l (k:Int))) (by have:=zAH bp.o 1 (.int .i64 (k:Int));simpa[zC3]using this);have ap:=zW (∀j,F j→j≠t→(P.setCell ⟨t,1,none⟩ (.int .i64 (k:Int))).heap[j]?=w1.heap[j]?) fun j B al=>(zAK _ al).trans (af.o.block j (H.o.flt B));obtain⟨dv,ev,be,-⟩:=Z.o.cells;have bm:=zCG be;have O:(P.setCell ⟨t,1,none⟩ (.int .i64 (k:Int))).cell? ⟨t,0,none⟩=some (.pointer (some ⟨l,0,none⟩)):=zAB au.o rfl;have aR:=zW (zA4 (P.setCell ⟨t,1,none⟩ (.int .i64 (k:Int))) 5 (.slice X b5.length T) b5) (OwnR.keep aA.o fun j B=>zAK _ fun e=>by have:=ad.o j B;have h5:j=t:=e;omega);clear be
     by_cases W:k≤M.base
     ·have C:=zW (zBB w w1 l d pre D M F t la b (.returned (.bool true)) (P.setCell ⟨t,1,none⟩ (.int .i64 (k:Int)))) (take_some rfl (s:=((k:Int),M.entries)) (Z.o.less fun _ h=>.inl h) ap.o au.o (aQ.o _ ag.o W));have bH:((k:Int))≤(M.base:Int):=by omega
      generalize M.base=base at *
      by_cases L:0≤la
      ·have V:(k:Int)=la+1:=by omega
       have aK:((k:Int) != la+1)=false:=by simp[V]
       have ae:decide (0≤la)=true:=by simpa using L
       clear V;go_wp2_with fail;refine G.o.mono ?_;rintro e I ⟨rfl,rfl⟩;go_wp2_with fail;go_ret;exact C.o
      ·have ae:decide (0≤la)=false:=by simpa using L
       go_wp2_with fail;refine G.o.mono ?_;rintro e I ⟨rfl,rfl⟩;go_wp2_with fail;go_ret;exact C.o
     ·have ac:=zh (zAv Z.o);have bF:(M.base:Int)<(k:Int):=by omega
      have aq:=zW (M.last=M.base+M.entries.length) rfl;have aU:=zh Z.o.last
      by_cases U:k≠M.base+M.entries.length+1
      ·have C:=zh (fun q=>(show zBB w w1 l d pre D M F t la b (.returned (.bool false)) ((P.setCell ⟨t,1,none⟩ (.int .i64 (k:Int))).drewN q)from zDz rfl ((Z.o.less fun _ h=>.inl h).stF.drewN q) ap.o (aM.o _ ag.o W U)));have bu:=aU.o;have am:(k:Int)≠(M.last:Int)+1:=by have:=aq.o;omega
       have bv:((k:Int) != (M.last:Int)+1)=true:=by simpa using am
       clear U W am;generalize M.last=bI at *;generalize M.base=base at *
       by_cases L:0≤la
       ·have V:(k:Int)=la+1:=by
         have:=ag.o;exact Classical.byContradiction fun e=>this (.inr (.inr (.inr ⟨L,e⟩)))
        have aK:((k:Int) != la+1)=false:=by simp[V]
        have ae:decide (0≤la)=true:=by simpa using L
        clear V;go_wp2_with fail;refine G.o.mono ?_;rintro e I ⟨rfl,rfl⟩;go_wp2_with fail;refine ac.o.mono ?_;rintro e w7 ⟨rfl,q,rfl⟩;go_wp2_with fail;go_ret;exact C.o q
       ·have ae:decide (0≤la)=false:=by simpa using L
        go_wp2_with fail;refine G.o.mono ?_;rintro e I ⟨rfl,rfl⟩;go_wp2_with fail;refine ac.o.mono ?_;rintro e w7 ⟨rfl,q,rfl⟩;go_wp2_with fail;go_ret;exact C.o q
      ·have bt:k=M.base+M.entries.length+1:=Classical.not_not.1 U;have aP:=zh (aO.o ((la,M.entries):Int×List Bs) ag.o W U);have bu:=aU.o;have az:M.last+1≤1099511627776:=by have:=aq.o;omega
       have am:((k:Int) != (M.last:Int)+1)=false:=by have:=aq.o;simp;omega
       have bD:M.entries.length≤1099511627776:=by have:=aq.o;omega
       have aV:=zh az;clear U W bt az
       by_cases L:0≤la
       ·have V:(k:Int)=la+1:=by
         have:=ag.o;exact Classical.byContradiction fun e=>this (.inr (.inr (.inr ⟨L,e⟩)))
        have aK:((k:Int) != la+1)=false:=by simp[V]
        have ae:decide (0≤la)=true:=by simpa using L
        clear V;generalize aJ:P.setCell ⟨t,1,none⟩ (.int .i64 (k:Int))=I at *;go_wp2_with fail;refine G.o.mono ?_;rintro e w8 ⟨rfl,rfl⟩;go_wp2_with fail;refine ac.o.mono ?_;rintro e w7 ⟨rfl,q,rfl⟩;clear aJ;have O:(I.drewN q).cell? ⟨t,0,none⟩=some (.pointer (some ⟨l,0,none⟩)):=O;go_wp2_with fail;refine ost (fun w':World=>w'.cell? ⟨t,0,none⟩=some (.pointer (some ⟨l,0,none⟩))) 17 (O) fun f=>?_;have aC:=Z.o.next (show Below I.heap.size I (I.drewN q).drew from⟨rfl,rfl,rfl,Nat.le_refl _,fun _ _=>rfl⟩);have aa:(I.drewN q).drew.heap[t]?=some (zC3 l (k:Int)):=au.o;have ak:zA4 (I.drewN q).drew 5 (.slice X b5.length T) b5:=OwnR.keep aR.o fun _ _=>rfl;have aj:∀j,F j→j≠t→(I.drewN q).drew.heap[j]?=w1.heap[j]?:=ap.o;generalize (I.drewN q).drew=E at *;obtain⟨own,dv,ev,vs,Q,hS,hn,hl⟩:=aC;have h4:=Q.c4;have k0:=Q.c0;have aL:¬own t:=fun ho=>(hn t ho).2 (.inl Y.o);have ab:t≠l:=fun e=>bf e.symm;have ah:=zh (cell0 aa:E.cell? ⟨t,0,none⟩=some (.pointer (some ⟨l,0,none⟩)));have S:=zh (Q.row.keep (w':=E.alloc (.cells #[.slice X b5.length T] 39)) fun j B=>(zAU E _).block j (OwnR.lt Q.row B));have ai:=zh (zCn E (.slice X b5.length T) 39 (0,0));have HP:=zW (∀N w3,OwnR w3 39 1 N (M.entries.length+1) (vs++[.slice X b5.length T])→(E.alloc (.cells #[.slice X b5.length T] 39)).grownBy w3 ev.ownBlock→(N.ownBlock=ev.ownBlock∨∃g,N.ownBlock=some g∧(E.alloc (.cells #[.slice X b5.length T] 39)).heap.size≤g)→zBB w w1 l d pre D M F t la b (.returned (.bool true)) (w3.setCell ⟨l,4,none⟩ N)∧w3.heap[t]?=E.heap[t]?∧w3.heap[l]?=some (.cells #[.pointer (some ⟨d,0,none⟩),.string pre,.int .i64 (M.base:Int),dv,ev,.bool M.dead] 130 (0,0))) (fun N w3 y v z=>by
         obtain⟨aD,aE,aF,aG⟩:=zDB Q ak (fun j B ho=>(hn j ho).2 (.inr B)) aS.o aV.o (zAU E _) y v z;have an:w3.heap[t]?=E.heap[t]?:=(v.block t (Nat.lt_of_lt_of_le (hl t (.inl Y.o)) (zAU E _).size) fun e=>aL (Q.oe t e.symm).1).trans ((zAU E _).block t (hl t (.inl Y.o)));obtain⟨aH,aI⟩:=zAm.taken hS hn hl (fun j B=>.inl B) aD aE fun j B=>by
          rcases B with B|B|B
          ·exact .inl B
          ·exact .inr (.inr ⟨.inr B,fun hf=>by have h5:=ad.o j B;have h6:=H.o.flt hf;omega,Nat.le_trans H.o.bel.size (ad.o j B)⟩)
          ·rcases aF j B with h|h
           ·exact .inl h
           ·exact .inr (.inl h)
         exact⟨take_some rfl (s:=((k:Int),M.entries++[b5])) aH (fun j B al=>(aI j B).trans (aj j B al)) ((zAK N ab).trans (an.trans aa)) aP.o,an,aG.trans Q.cells⟩)
        clear Q hS hn hl aa ak aj bm bn bo aY;generalize M.entries.length=m at *;generalize b5.length=q5 at *;refine Pl [0,1,2,3,4,5,6,7,8,9,11] ?_
        iterate 11 (refine Pc rfl ?_;simp only[uZ])
        refine Pn ?_;refine zCk 10 12 rfl rfl (by kernel_rfl) (by rfl) (by rfl) (fun K A=>?_) (fun K A=>?_)
        ·go_wp2_with fail;refine A.o _ _ (f) fun f=>?_;clear A
         try simp only[uZ]
         refine oon 12 rfl fun K A=>?_;go_wp2_with fail;refine A.o _ _ (zAP f _) fun f=>?_;clear A
         try simp only[uZ]
         refine oon 13 rfl fun K A=>?_;refine zEF (.tmp 72) (.tmp 74) 128 rfl 39 i0 (.slice none 0 0) 1 24 underlying128 hi aw ax ay rfl (by decide) _ m _ rfl S.o (.slice (some ⟨E.heap.size,0,none⟩) 1 1) 1 _ rfl ai.o (by simp[Value.oneCell']) (by unfold maxLen;omega) (by omega) ?_;intro N w3 y v z;have C:=zh (HP.o N w3 y v z);have k4:=zDL C.o.2.2;have f4:=zAE C.o.2.2 4;have J:w3.cell? ⟨t,0,none⟩=some (.pointer (some ⟨l,0,none⟩)):=(World.cell?_of_block (a:=⟨t,0,none⟩) C.o.2.1).trans ah.o;obtain⟨p3,q3,rfl⟩:=OwnR.shape y;clear y v z;refine A.o _ _ J fun f=>?_;clear A
         try simp only[uZ]
         refine Pl [14,15] ?_
         iterate 2 (refine Pc rfl ?_;simp only[uZ])
         refine Pn ?_;refine oon 16 rfl fun K A=>?_;go_wp2_with fail;refine A.o _ _ ((World.cell?_of_block (a:=⟨t,0,none⟩) (zAK _ ab)).trans J) fun f=>?_;clear A
         try simp only[uZ]
         refine odn ?_;go_wp2_with fail;go_ret;exact C.o.1
        ·have bs:=zAP h4 (.cells #[.slice X q5 T] 39);go_wp2_with fail;refine A.o _ _ (zAP f _) fun f=>?_;clear A
         try simp only[uZ]
         refine oon 10 rfl fun K A=>?_;go_wp2_with fail;refine A.o _ _ (f) fun f=>?_;clear A
         try simp only[uZ]
         refine oon 13 rfl fun K A=>?_;refine zEF (.tmp 72) (.tmp 74) 128 rfl 39 i0 (.slice none 0 0) 1 24 underlying128 hi aw ax ay rfl (by decide) _ m _ rfl S.o (.slice (some ⟨E.heap.size,0,none⟩) 1 1) 1 _ rfl ai.o (by simp[Value.oneCell']) (by unfold maxLen;omega) (by omega) ?_;intro N w3 y v z;have C:=zh (HP.o N w3 y v z);have k4:=zDL C.o.2.2;have f4:=zAE C.o.2.2 4;have J:w3.cell? ⟨t,0,none⟩=some (.pointer (some ⟨l,0,none⟩)):=(World.cell?_of_block (a:=⟨t,0,none⟩) C.o.2.1).trans ah.o;obtain⟨p3,q3,rfl⟩:=OwnR.shape y;clear y v z;refine A.o _ _ J fun f=>?_;clear A
         try simp only[uZ]
         refine Pl [14,15] ?_
         iterate 2 (refine Pc rfl ?_;simp only[uZ])
         refine Pn ?_;refine oon 16 rfl fun K A=>?_;go_wp2_with fail;refine A.o _ _ ((World.cell?_of_block (a:=⟨t,0,none⟩) (zAK _ ab)).trans J) fun f=>?_;clear A
         try simp only[uZ]
         refine odn ?_;go_wp2_with fail;go_ret;exact C.o.1
       ·have ae:decide (0≤la)=false:=by simpa using L
        generalize aJ:P.setCell ⟨t,1,none⟩ (.int .i64 (k:Int))=I at *;go_wp2_with fail;refine G.o.mono ?_;rintro e w8 ⟨rfl,rfl⟩;go_wp2_with fail;refine ac.o.mono ?_;rintro e w7 ⟨rfl,q,rfl⟩;clear aJ;have O:(I.drewN q).cell? ⟨t,0,none⟩=some (.pointer (some ⟨l,0,none⟩)):=O;go_wp2_with fail;refine ost (fun w':World=>w'.cell? ⟨t,0,none⟩=some (.pointer (some ⟨l,0,none⟩))) 17 (O) fun f=>?_;have aC:=Z.o.next (show Below I.heap.size I (I.drewN q).drew from⟨rfl,rfl,rfl,Nat.le_refl _,fun _ _=>rfl⟩);have aa:(I.drewN q).drew.heap[t]?=some (zC3 l (k:Int)):=au.o;have ak:zA4 (I.drewN q).drew 5 (.slice X b5.length T) b5:=OwnR.keep aR.o fun _ _=>rfl;have aj:∀j,F j→j≠t→(I.drewN q).drew.heap[j]?=w1.heap[j]?:=ap.o;generalize (I.drewN q).drew=E at *;obtain⟨own,dv,ev,vs,Q,hS,hn,hl⟩:=aC;have h4:=Q.c4;have k0:=Q.c0;have aL:¬own t:=fun ho=>(hn t ho).2 (.inl Y.o);have ab:t≠l:=fun e=>bf e.symm;have ah:=zh (cell0 aa:E.cell? ⟨t,0,none⟩=some (.pointer (some ⟨l,0,none⟩)));have S:=zh (Q.row.keep (w':=E.alloc (.cells #[.slice X b5.length T] 39)) fun j B=>(zAU E _).block j (OwnR.lt Q.row B));have ai:=zh (zCn E (.slice X b5.length T) 39 (0,0));have HP:=zW (∀N w3,OwnR w3 39 1 N (M.entries.length+1) (vs++[.slice X b5.length T])→(E.alloc (.cells #[.slice X b5.length T] 39)).grownBy w3 ev.ownBlock→(N.ownBlock=ev.ownBlock∨∃g,N.ownBlock=some g∧(E.alloc (.cells #[.slice X b5.length T] 39)).heap.size≤g)→zBB w w1 l d pre D M F t la b (.returned (.bool true)) (w3.setCell ⟨l,4,none⟩ N)∧w3.heap[t]?=E.heap[t]?∧w3.heap[l]?=some (.cells #[.pointer (some ⟨d,0,none⟩),.string pre,.int .i64 (M.base:Int),dv,ev,.bool M.dead] 130 (0,0))) (fun N w3 y v z=>by
         obtain⟨aD,aE,aF,aG⟩:=zDB Q ak (fun j B ho=>(hn j ho).2 (.inr B)) aS.o aV.o (zAU E _) y v z;have an:w3.heap[t]?=E.heap[t]?:=(v.block t (Nat.lt_of_lt_of_le (hl t (.inl Y.o)) (zAU E _).size) fun e=>aL (Q.oe t e.symm).1).trans ((zAU E _).block t (hl t (.inl Y.o)));obtain⟨aH,aI⟩:=zAm.taken hS hn hl (fun j B=>.inl B) aD aE fun j B=>by
          rcases B with B|B|B
          ·exact .inl B
          ·exact .inr (.inr ⟨.inr B,fun hf=>by have h5:=ad.o j B;have h6:=H.o.flt hf;omega,Nat.le_trans H.o.bel.size (ad.o j B)⟩)
          ·rcases aF j B with h|h
           ·exact .inl h
           ·exact .inr (.inl h)
         exact⟨take_some rfl (s:=((k:Int),M.entries++[b5])) aH (fun j B al=>(aI j B).trans (aj j B al)) ((zAK N ab).trans (an.trans aa)) aP.o,an,aG.trans Q.cells⟩)
        clear Q hS hn hl aa ak aj bm bn bo aY;generalize M.entries.length=m at *;generalize b5.length=q5 at *;refine Pl [0,1,2,3,4,5,6,7,8,9,11] ?_
        iterate 11 (refine Pc rfl ?_;simp only[uZ])
        refine Pn ?_;refine zCk 10 12 rfl rfl (by kernel_rfl) (by rfl) (by rfl) (fun K A=>?_) (fun K A=>?_)
        ·go_wp2_with fail;refine A.o _ _ (f) fun f=>?_;clear A
         try simp only[uZ]
         refine oon 12 rfl fun K A=>?_;go_wp2_with fail;refine A.o _ _ (zAP f _) fun f=>?_;clear A
         try simp only[uZ]
         refine oon 13 rfl fun K A=>?_;refine zEF (.tmp 72) (.tmp 74) 128 rfl 39 i0 (.slice none 0 0) 1 24 underlying128 hi aw ax ay rfl (by decide) _ m _ rfl S.o (.slice (some ⟨E.heap.size,0,none⟩) 1 1) 1 _ rfl ai.o (by simp[Value.oneCell']) (by unfold maxLen;omega) (by omega) ?_;intro N w3 y v z;have C:=zh (HP.o N w3 y v z);have k4:=zDL C.o.2.2;have f4:=zAE C.o.2.2 4;have J:w3.cell? ⟨t,0,none⟩=some (.pointer (some ⟨l,0,none⟩)):=(World.cell?_of_block (a:=⟨t,0,none⟩) C.o.2.1).trans ah.o;obtain⟨p3,q3,rfl⟩:=OwnR.shape y;clear y v z;refine A.o _ _ J fun f=>?_;clear A
         try simp only[uZ]
         refine Pl [14,15] ?_
         iterate 2 (refine Pc rfl ?_;simp only[uZ])
         refine Pn ?_;refine oon 16 rfl fun K A=>?_;go_wp2_with fail;refine A.o _ _ ((World.cell?_of_block (a:=⟨t,0,none⟩) (zAK _ ab)).trans J) fun f=>?_;clear A
         try simp only[uZ]
         refine odn ?_;go_wp2_with fail;go_ret;exact C.o.1
        ·have bs:=zAP h4 (.cells #[.slice X q5 T] 39);go_wp2_with fail;refine A.o _ _ (zAP f _) fun f=>?_;clear A
         try simp only[uZ]
         refine oon 10 rfl fun K A=>?_;go_wp2_with fail;refine A.o _ _ (f) fun f=>?_;clear A
         try simp only[uZ]
         refine oon 13 rfl fun K A=>?_;refine zEF (.tmp 72) (.tmp 74) 128 rfl 39 i0 (.slice none 0 0) 1 24 underlying128 hi aw ax ay rfl (by decide) _ m _ rfl S.o (.slice (some ⟨E.heap.size,0,none⟩) 1 1) 1 _ rfl ai.o (by simp[Value.oneCell']) (by unfold maxLen;omega) (by omega) ?_;intro N w3 y v z;have C:=zh (HP.o N w3 y v z);have k4:=zDL C.o.2.2;have f4:=zAE C.o.2.2 4;have J:w3.cell? ⟨t,0,none⟩=some (.pointer (some ⟨l,0,none⟩)):=(World.cell?_of_block (a:=⟨t,0,none⟩) C.o.2.1).trans ah.o;obtain⟨p3,q3,rfl⟩:=OwnR.shape y;clear y v z;refine A.o _ _ J fun f=>?_;clear A
         try simp only[uZ]
         refine Pl [14,15] ?_
         iterate 2 (refine Pc rfl ?_;simp only[uZ])
         refine Pn ?_;refine oon 16 rfl fun K A=>?_;go_wp2_with fail;refine A.o _ _ ((World.cell?_of_block (a:=⟨t,0,none⟩) (zAK _ ab)).trans J) fun f=>?_;clear A
         try simp only[uZ]
         refine odn ?_;go_wp2_with fail;go_ret;exact C.o.1
end
end Go.Proofs.YtmcanphlgkolcaaGreatDoor

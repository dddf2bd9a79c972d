/- What the program's functions and the document's do, and plain laws, for PZoneStates. -/
import Derived.Laws.BitsAllLaws
import Derived.Lib.ConvBytes
import Derived.Test.YtmcanphlgkolcaaGreatDoorCA
import Derived.Test.YtmcanphlgkolcaaGreatDoorCB
import Derived.Test.YtmcanphlgkolcaaGreatDoorCC
import Derived.Test.YtmcanphlgkolcaaGreatDoorCD
import Derived.Test.YtmcanphlgkolcaaGreatDoorCShelfI
open Go.Proofs.Tryz
set_option maxRecDepth 100000
set_option maxHeartbeats 64000000
namespace Go.Proofs.YtmcanphlgkolcaaGreatDoor
open Go.RowKit Go.Sat Go.Maps
def zBs (n:Nat):Bs:=[UInt8.ofNat n,UInt8.ofNat (n/256),UInt8.ofNat (n/65536),UInt8.ofNat (n/16777216)]
def NewB (w:World)(l:Bs)(e:Ending)(w':World):Prop:=∃v,e=.returned v∧zAf w' v l∧Below w.heap.size w w'
theorem four_calls {w:World}(v:Nat)(k:v<4294967296) :
  Calls prog 150 #[.int .u32 (v:Int)] w (NewB w (zBs v)):=by
 have b:NewB w (zBs v) (.returned (.slice (some ⟨w.heap.size,0,none⟩) 4 4)) (w.alloc (.cells #[.int .u8 ((v:Int)%256),.int .u8 ((v:Int)/256%256),.int .u8 ((v:Int)/65536%256),.int .u8 ((v:Int)/16777216)] 5)) :=
  ⟨_,rfl,has_lit _ (zBs v) _ _ 4 rfl rfl (by
   simp only[zBs,zAX,List.map_cons,List.map_nil,UInt8.toNat_ofNat'];have d:(v:Int)/16777216=((v/16777216%256:Nat):Int):=by omega
   have f:(v:Int)%256=((v%256:Nat):Int):=by omega
   have i:(v:Int)/256%256=((v/256%256:Nat):Int):=by omega
   have j:(v:Int)/65536%256=((v/65536%256:Nat):Int):=by omega
   rw[d,f,i,j]),(Below.refl _ _).alloc (Nat.le_refl _) _⟩
 have c:=zh b;clear b
 go_enter func150,ntmps150
 go_wp2_with fail;go_ret;exact c.o
theorem or_add (k a b:Nat)(h:a<2 ^ k):(a ||| b*2 ^ k)=a+b*2 ^ k:=by
 have:=Nat.two_pow_add_eq_or_of_lt h b;rw[Nat.or_comm,Nat.mul_comm b,←this,Nat.add_comm]
theorem or_four {f b c d:Nat}(m:f<2 ^ 8)(l1:b<2 ^ 8)(l2:c<2 ^ 8)(n:d<2 ^ 8) :
  bits .or .u32 (bits .or .u32 (bits .or .u32 (f:Int) ((b:Int)*256)) ((c:Int)*65536)) ((d:Int)*16777216)=((f+b*256+c*65536+d*16777216:Nat):Int):=by
 have i:(b:Int)*256=((b*2 ^ 8:Nat):Int):=by omega
 have j:(c:Int)*65536=((c*2 ^ 16:Nat):Int):=by omega
 have k:(d:Int)*16777216=((d*2 ^ 24:Nat):Int):=by omega
 rw[i,j,k,u32_or_nat _ _ (by omega) (by omega),or_add 8 f b (by omega),u32_or_nat _ _ (by omega) (by omega),or_add 16 _ c (by omega),u32_or_nat _ _ (by omega) (by omega),or_add 24 _ d (by omega)]
def ofFour (b c d f:UInt8):Nat:=b.toNat+c.toNat*256+d.toNat*65536+f.toNat*16777216
theorem of_four (n:Nat)(h:n<4294967296):ofFour (UInt8.ofNat n) (UInt8.ofNat (n/256)) (UInt8.ofNat (n/65536)) (UInt8.ofNat (n/16777216))=n:=by
 simp only[ofFour,UInt8.toNat_ofNat'];omega
theorem fromFour_calls {w:World}{b o n c:Nat}{d f i j:UInt8}(hn:4≤n)(s:w.cell? ⟨b,o,none⟩=some (.int .u8 (d.toNat:Int)))(t:w.cell? ⟨b,o+1,none⟩=some (.int .u8 (f.toNat:Int)))
  (v:w.cell? ⟨b,o+2,none⟩=some (.int .u8 (i.toNat:Int))) (y:w.cell? ⟨b,o+3,none⟩=some (.int .u8 (j.toNat:Int))) :
  Calls prog 222 #[.slice (some ⟨b,o,none⟩) n c] w (fun e w'=>e=.returned (.int .u32 (ofFour d f i j:Int))∧∃q,w'=w.drewN q):=by
 have m:=d.toNat_lt;have l1:=f.toNat_lt;have l2:=i.toNat_lt;have p:=j.toNat_lt;have z:(0:Int)<(n:Int):=by omega
 have a:(1:Int)<(n:Int):=by omega
 have h:(2:Int)<(n:Int):=by omega
 have A:(3:Int)<(n:Int):=by omega
 have hF:=or_four m l1 l2 p;have k:=zW (bits .or .u32 (bits .or .u32 (bits .or .u32 (d.toNat:Int) ((f.toNat:Int)*256)) ((i.toNat:Int)*65536)) ((j.toNat:Int)*16777216)=(ofFour d f i j:Int)) hF;clear hF;generalize ofFour d f i j=r at *;generalize d.toNat=B at *;generalize f.toNat=C at *;generalize i.toNat=D at *;generalize j.toNat=E at *
 go_enter func222,ntmps222
 go_wp2_with fail
 go_quiet (fail)
 go_wp2
 go_ret;exact⟨by rw[←k.o];rfl,_,rfl⟩
def sumN (l:Bs):Nat:=(sumF l).toNat
theorem sumF_range (l:Bs):0≤sumF l∧sumF l<4294967296:=by
 unfold sumF bits;rw[IntKind.wrap_u32];omega
theorem sumF_nat (l:Bs):sumF l=(sumN l:Int):=by
 have:=(sumF_range l).1;unfold sumN;omega
theorem sumN_lt (l:Bs):sumN l<4294967296:=by
 have:=sumF_range l;unfold sumN;omega
theorem rows_two {w:World}{f j:Value}{l1 l2:Bs}(n:zAf w f l1)(o:zAf w j l2)(e:TypeId)(fr:Nat×Nat)(g c:Nat)(q:g=w.heap.size)(p:2≤c):zBM (w.alloc (.cells #[f,j] e fr)) (.slice (some ⟨g,0,none⟩) 2 c) [l1,l2]:=by
 subst q;refine⟨_,c,rfl,by simpa using p,fun _=>⟨_,_,[f,j],rfl,rfl,fun i u b=>?_,fun i u m b d=>?_⟩⟩
 ·have k:(⟨w.heap.size,0,none⟩:Addr).add i=⟨w.heap.size,i,none⟩:=by unfold Addr.add;split<;>simp_all
  rw[k];refine zAB (zAF w _) ?_;simpa using b
 ·have r:i<2:=by
   have:=(List.getElem?_eq_some_iff.1 b).1;simpa using this
  have:i=0∨i=1:=by omega
  rcases this with rfl|rfl
  ·simp at b d;subst b;subst d;exact(zDq n _).kit
  ·simp at b d;subst b;subst d;exact(zDq o _).kit
theorem zCi (w:World)(o:Obj):Below w.heap.size w (w.alloc o):=(Below.refl _ _).alloc (Nat.le_refl _) o
theorem zAr {w w1 w2:World}(h:Below w.heap.size w w1)(k:Below w1.heap.size w1 w2):Below w.heap.size w w2:=h.trans (k.mono h.size)
def zCx (n:Nat):Bs:=zBs n++zBs (sumN (zBs n))
theorem head_calls {w:World}(n:Nat)(h:n<4294967296) :
  Calls prog 149 #[.int .u32 (n:Int)] w (NewB w (zCx n)):=by
 have t:=zh (fun w=>four_calls (w:=w) n h)
 go_enter func149,ntmps149
 go_wp2_with fail;refine(t.o _).mono ?_;rintro e w1 ⟨N,rfl,hv1,k⟩;have v:=zh hv1;have a:=zh k;clear hv1 k;go_wp2_with fail;refine(t.o _).mono ?_;rintro e w2 ⟨O,rfl,c,m⟩;have E:=zh c;have s:=zh m;obtain⟨L,H,rfl⟩:=c.slice;clear c m;go_wp2_with fail;refine(sum_calls (zDC E.out 39 (0,0) _ 1 rfl (Nat.le_refl _)) (by decide) (by simp[zBs])).mono ?_;rintro e w3 ⟨rfl,rfl⟩;rw[show [zBs n].flatten=zBs n by simp,sumF_nat];have B:=zh (fun w=>four_calls (w:=w) (sumN (zBs n)) (sumN_lt _));have C:=zW (zCx n=zBs n++zBs (sumN (zBs n))) rfl;generalize sumN (zBs n)=q at *;go_wp2_with fail;refine(B.o _).mono ?_;rintro e Q ⟨P,rfl,d,b⟩;have f:=zAr a.out (zAr s.out (zAr (zCi _ _) b));have j:=v.out.below (zAr s.out (zAr (zCi _ _) b));obtain⟨J,G,rfl⟩:=v.out.slice;obtain⟨M,I,rfl⟩:=d.slice;have y:=zCL (rows_two j d 39 (0,0) _ 2 rfl (Nat.le_refl _)) (by simp) (by simp[zBs]);have D:=zh y;have A:=zh f;clear y j f d b;go_wp2_with fail;refine D.o.mono ?_;rintro e F ⟨z,rfl,r,p⟩;have i:=zW (NewB w (zCx n) (.returned z) F) (⟨z,rfl,by rw[C.o];simpa using r,zAr A.out (zAr (zCi _ _) p)⟩);clear r p;go_wp2_with fail;go_ret;exact i.o
end Go.Proofs.YtmcanphlgkolcaaGreatDoor
namespace Go.Proofs.YtmcanphlgkolcaaGreatDoor
open Go.RowKit Go.Sat
theorem fresh_ge {B:Nat}{w:World}{v:Value}{l:Bs}(h:Lib.FreshBytes B w v l):∀k,v.ownBlock=some k→B≤k:=by
 obtain⟨g,b,zs,rfl,c,_⟩:=h;intro k d;cases d;exact c
theorem bjoin_new {w:World}{x:Value}{ls:List Bs}(h:zBM w x ls)(hn:ls.length≤140737488355328)(G:ls.flatten.length≤140737488355328) :
  Calls prog 193 #[x,.slice none 0 0] w fun e w'=>∃v,e=.returned v∧zAf w' v ls.flatten∧(∀k,v.ownBlock=some k→w.heap.size≤k)∧Below w.heap.size w w':=by
 obtain⟨p,c,rfl,I,H⟩:=h;cases ls with
 | nil =>
  refine(Tryz.bytes_Join_none p c (.slice none 0 0) w).mono ?_;rintro e w' ⟨rfl,rfl⟩;refine⟨_,rfl,?_,fun k z=>(by simp[Value.ownBlock]at z;omega),(Below.refl _ _).alloc (Nat.le_refl _) _⟩;exact zAf.of_kit ⟨_,_,rfl,fun e=>(by cases e),fun a n i x J=>by simp at J⟩
 | cons l0 r =>
  obtain⟨b,o,vs,rfl,F⟩:=H (by simp);cases r with
  | nil =>
   obtain⟨q,s,L,D,f,B,y⟩:=F.get 0 (by simp);simp at D;subst D;have d:w.cell? ⟨b,o,none⟩=some (.slice q l0.length s):=by simpa[Addr.add]using f
   by_cases E:l0.length=0
   ·have A:l0=[]:=List.eq_nil_of_length_eq_zero E;subst A;refine(Tryz.bytes_Join_one_empty b o c q s (.slice none 0 0) w d).mono ?_;rintro e w' ⟨rfl,rfl⟩;exact⟨_,rfl,zAf.of_kit ⟨none,0,rfl,fun _=>rfl,fun a n=>(by cases n)⟩,fun k z=>(by cases z),Below.refl _ _⟩
   ·obtain⟨C,rfl⟩:∃a,q=some a:=by
     cases q with
     | none=>exact absurd (by rw[B rfl];rfl) E
     | some a=>exact⟨a,rfl⟩
    refine(Tryz.bytes_Join_one b o c C s l0 (.slice none 0 0) w d (y C rfl) (by omega) (by simpa using G)).mono ?_;rintro e w' ⟨v,rfl,j,t⟩;exact⟨v,rfl,by simpa using zEd j,fresh_ge j,t⟩
  | cons l1 r =>
   have m:Lib.HoldsBytes w (.slice none 0 0) []:=⟨none,0,rfl,fun _=>rfl,fun a n=>(by cases n)⟩;refine(Tryz.bytes_Join_many b o _ c vs (l0::l1::r) (.slice none 0 0) [] w rfl (by simp) F I m hn (by rw[←flat_len];simpa using G)).mono ?_;rintro e w' ⟨v,rfl,j,t⟩;rw[join_flat]at j;exact⟨v,rfl,zEd j,fresh_ge j,t⟩
theorem join_new {w:World}{x:Value}{ls:List Bs}(h:zBM w x ls)(hn:ls.length≤140737488355328)(j:ls.flatten.length≤140737488355328) :
  Calls prog 148 #[x] w fun e w'=>∃v,e=.returned v∧zAf w' v ls.flatten∧(∀k,v.ownBlock=some k→w.heap.size≤k)∧Below w.heap.size w w':=by
 have b:=bjoin_new h hn j;obtain⟨p,c,rfl,q,f⟩:=h;have d:=zh b;clear b f
 go_enter func148,ntmps148
 go_wp2_with fail;refine d.o.mono ?_;rintro e w' ⟨v,rfl,m,n,i⟩;go_wp2_with fail;go_ret;exact⟨v,rfl,m,n,i⟩
end Go.Proofs.YtmcanphlgkolcaaGreatDoor
namespace Go.Proofs.YtmcanphlgkolcaaGreatDoor
open Go.RowKit Go.Sat Go.Maps
def zAM (l:Bs):Bs:=(zCx l.length++l)++zBs (sumN (zCx l.length++l))
theorem lens_take (ls:List Bs){k:Nat}(b:k<ls.length):(ls.take (k+1)).flatten.length=(ls.take k).flatten.length+ls[k].length:=by
 rw[flat_take b,List.length_append]
theorem enc_calls {w:World}{p:Option Addr}{n c:Nat}{ls:List Bs}(hx:zBM w (.slice p n c) ls)(hn:n≤140737488355328)(hl:ls.flatten.length≤1048576) :
  Calls prog 97 #[.slice p n c] w (fun e w'=>∃v,e=.returned (.tuple #[v,.int .i64 0])∧zAf w' v (zAM ls.flatten)∧(∀k,v.ownBlock=some k→w.heap.size≤k)∧Below w.heap.size w w'):=by
 have M:=zBM.len hx;have Hx:=zh hx;have Hl:=zh hl;have r:=zh M;clear hx hl M
 go_enter func97,ntmps97
 go_wp2_with fail
 go_loop [4,10] (fun a i=>∃k:Nat,k≤n∧i=.int .i64 k∧a=.int .i64 (((ls.take k).flatten.length:Nat):Int)∧(ls.take k).flatten.length≤1048576) (fun _ i=>n-(intOf i).toNat)
 case atStart=>exact⟨0,Nat.zero_le _,rfl,by simp,by simp⟩
 case round =>
  obtain⟨k,hk,rfl,rfl,ac⟩:=hrel
  by_cases ae:k<n
  ·have f:k<ls.length:=by rw[←r.o];exact ae
   have H:=lens_take ls f;have ad:=flat_take_le ls (k+1);obtain⟨-,b,o,v,rfl,ab,hv⟩:=zBM.row Hx.o f;obtain⟨pv,cv,rfl⟩:=hv.slice;have G:(ls.take (k+1)).flatten.length≤1048576:=by have:=Hl.o;omega
   have af:(ls.take k).flatten.length+ls[k].length≤1048576:=by omega
   have U:=zh H;have T:=zh G;clear hv H ad G;generalize ls[k].length=m at *;generalize (ls.take k).flatten.length=C at *;go_wp2_with fail
   go_round
   case rel=>exact⟨k+1,by omega,by go_num,by rw[U.o];go_num,T.o⟩
   case measure=>simp[intOf];omega
  ·have L:ls.take k=ls:=List.take_of_length_le (by have:=r.o;omega);rw[L]at ac ⊢;have ag:k=n:=by omega
   have V:=zh (fun w=>head_calls (w:=w) ls.flatten.length (by have:=Hl.o;omega));have R:=zW (zAM ls.flatten=(zCx ls.flatten.length++ls.flatten)++zBs (sumN (zCx ls.flatten.length++ls.flatten))) rfl;have aa:=zh (fun(W:World) (hb:Below w.heap.size w W)=>zCL (zDO Hx.o hb) (by rw[←r.o];omega) (by have:=Hl.o;omega));generalize hX:ls.flatten=X at *;have HX:=zh hX;clear hX;generalize hC:X.length=C at *;have I:(zCx C).length=8:=rfl;generalize zCx C=P at *;have Q:=zh hC;have j:=zh I;clear L hC I;go_wp2_with fail;refine(V.o _).mono ?_;rintro e w1 ⟨v1,rfl,hv1,s⟩;have V1:=zh hv1;have B1:=zh s;have Hj:=zh (aa.o _ s);clear hv1 s;go_wp2_with fail;refine Hj.o.mono ?_;rintro e w2 ⟨v2,rfl,h,t⟩;have z:=V1.out.below t;obtain⟨p1,c1,rfl⟩:=z.slice;obtain⟨p2,c2,rfl⟩:=h.slice;have d:=zCL (rows_two z h 39 (0,0) _ 2 rfl (Nat.le_refl _)) (by simp) (by simp[j.o,Q.o];omega);rw[show [P,X].flatten=P++X by simp]at d;have e1:=j.o;have e2:=Q.o;rw[e1,e2]at d;rw[e1,e2];have Z:=zh d;have B2:=zh (zAr B1.out (zAr t (zCi w2 (.cells #[.slice p1 8 c1,.slice p2 C c2] 39))));clear d z h t e1 e2;go_wp2_with fail;refine Z.o.mono ?_;rintro e w3 ⟨v3,rfl,A,E⟩;have V3:=zh A;have B3:=zh (zAr B2.out E);have J:(P++X).length≤1048584:=by rw[List.length_append,j.o,Q.o];omega
   have S:=zh J;generalize hY:P++X=Y at *;obtain⟨p3,c3,rfl⟩:=A.slice;clear A E hY J;have ah:=S.o;generalize hD:Y.length=yl at *;have HD:=zh hD;clear hD;go_wp2_with fail;refine(sum_calls (zDC V3.out 39 (0,0) _ 1 rfl (Nat.le_refl _)) (by decide) (by simp[HD.o];omega)).mono ?_;rintro e w4 ⟨rfl,rfl⟩;rw[show [Y].flatten=Y by simp,sumF_nat];have Hg:=zh (fun w=>four_calls (w:=w) (sumN Y) (sumN_lt _));generalize sumN Y=q at *;go_wp2_with fail;refine(Hg.o _).mono ?_;rintro e w5 ⟨v5,rfl,B,y⟩;have D:=V3.out.below (zAr (zCi _ _) y);obtain⟨p5,c5,rfl⟩:=B.slice;have d:=join_new (rows_two D B 39 (0,0) _ 2 rfl (Nat.le_refl _)) (by simp) (by simp[zBs,HD.o];omega);rw[show [Y,zBs q].flatten=Y++zBs q by simp,show(zBs q).length=4 from rfl]at d;have B5:=zh (zAr B3.out (zAr (zCi _ _) y));rw[show(zBs q).length=4 from rfl];have K:=zh d;clear d D B y;go_wp2_with fail;refine K.o.mono ?_;rintro e w6 ⟨v6,rfl,N,O,F⟩;have V6:=zh (And.intro N (And.intro (fun k hk=>Nat.le_trans B5.out.size (Nat.le_trans (zCi w5 _).size (O k hk)):∀k,v6.ownBlock=some k→w.heap.size≤k) (zAr B5.out (zAr (zCi _ _) F))));clear N O F;go_wp2_with fail
   go_ret2
   exact⟨v6,rfl,by rw[HX.o,R.o];exact V6.out.1,V6.out.2.1,V6.out.2.2⟩
theorem bytes_in {w:World}{p:Option Addr}{n c:Nat}{l:Bs}(h:zAf w (.slice p n c) l):n=l.length∧Lib.BytesIn w p n (Lib.numsL l):=by
 have f:=h.at
 obtain⟨q,k,e⟩:=h.slice;cases e;refine⟨rfl,fun hn=>?_⟩;rcases f with e|⟨b,o,m,e,j⟩
 ·rw[e]at hn;simp at hn
 ·cases e;refine⟨b,o,rfl,fun i d=>?_⟩;rw[j i l[i] (List.getElem?_eq_getElem d)];simp[Lib.numsL,List.getD,List.getElem?_map,List.getElem?_eq_getElem d]
theorem zCI {w:World}{x y:Value}{l m:Bs}(b:zAf w x l)(c:zAf w y m) :
  Calls prog 69 #[x,y] w fun e w'=>e=.returned (.bool (l==m))∧w'=w:=by
 obtain⟨i,d,rfl⟩:=b.slice;obtain⟨j,f,rfl⟩:=c.slice;have:=Tryz.bytes_Equal_all i j l.length d m.length f (Lib.numsL l) (Lib.numsL m) w (Lib.numsL_length l) (Lib.numsL_length m) (bytes_in b).2 (bytes_in c).2;rwa[Lib.bytesOf_numsL,Lib.bytesOf_numsL]at this
def fourAt (b:Bs):Nat:=ofFour (b.getD 0 0) (b.getD 1 0) (b.getD 2 0) (b.getD 3 0)
def decE (b:Bs):Nat :=
 if b.length<8 then 2 else if b.take 8≠zCx (fourAt b)then 4 else if 1048576<fourAt b then 5 else if b.length<fourAt b+12 then 2
 else if fourAt (b.drop (8+fourAt b))≠sumN (b.take (8+fourAt b))then 4 else 0
def decB (b:Bs):Bs:=if decE b=0 then(b.drop 8).take (fourAt b)else []
def decL (b:Bs):Nat:=if decE b=0 then fourAt b+12 else 0
def Decoded (w:World)(b:Bs)(e:Ending)(w':World):Prop :=
 ∃v,e=.returned (.tuple #[v,.int .i64 (decL b:Int),.int .i64 (decE b:Int)])∧zA4 w' 5 v (decB b)∧(∀k,v.ownBlock=some k→w.heap.size≤k)∧Below w.heap.size w w'
theorem four_at {w:World}{p:Option Addr}{n c:Nat}{b:Bs}(h:zAf w (.slice p n c) b)(j:4≤b.length) :
  Calls prog 222 #[.slice p n c] w (fun e w'=>e=.returned (.int .u32 (fourAt b:Int))∧∃q,w'=w.drewN q):=by
 have k:=h.at
 obtain⟨t,r,e⟩:=h.slice;cases e;rcases k with e|⟨g,o,s,e,f⟩
 ·rw[e]at j;simp at j
 ·cases e;have d:∀i,i<b.length→b[i]?=some (b.getD i 0):=fun i m=>by simp[List.getD,List.getElem?_eq_getElem m]
  exact fromFour_calls j (by simpa using f 0 _ (d 0 (by omega))) (f 1 _ (d 1 (by omega))) (f 2 _ (d 2 (by omega))) (f 3 _ (d 3 (by omega)))
theorem fourAt_lt (b:Bs):fourAt b<4294967296:=by
 have c:=(b.getD 0 0).toNat_lt;have d:=(b.getD 1 0).toNat_lt;have f:=(b.getD 2 0).toNat_lt;have i:=(b.getD 3 0).toNat_lt;unfold fourAt ofFour;omega
theorem zAf.from {w:World}{g o n c:Nat}{l:Bs}(h:zAf w (.slice (some ⟨g,o,none⟩) n c) l){k:Nat}(_hk:k≤l.length)(d:Nat):zAf w (.slice (some ⟨g,o+k,none⟩) (n-k) d) (l.drop k):=by
 have j:=h.at
 obtain⟨v,q,e⟩:=h.slice;cases e;refine zAf.of_kit ⟨some ⟨g,o+k,none⟩,d,by rw[List.length_drop],fun e=>(by cases e),fun a m i x b=>?_⟩;cases m;have f:(⟨g,o+k,none⟩:Addr).add i=⟨g,o+k+i,none⟩:=by unfold Addr.add;split<;>simp_all
 rw[f];rw[List.getElem?_drop]at b;rcases j with e|⟨s,t,r,e,p⟩
 ·rw[e]at b;simp at b
 ·cases e;have:=p _ _ b;rw[Nat.add_assoc];exact this
structure RdIn (w:World)(r:Nat)(R:Rd)(p:Option Addr)(n c:Nat):Prop where
 cells:w.heap[r]?=some (.cells #[.slice p n c,.bool R.bad] 200 (0,0))
 has:zAf w (.slice p n c) R.rest
 cap:n≤c
 ne:(Value.slice p n c).ownBlock≠some r
 len:R.rest.length≤140737488355328
def RdAt (w:World)(r:Nat)(R:Rd):Prop:=∃p n c,RdIn w r R p n c
def RStep1 (w:World)(r:Nat)(b:Rd)(v:Value)(e:Ending)(w':World):Prop:=e=.returned v∧RdAt w' r b∧Chg (fun k=>k=r) w w'
section
variable {w:World} {r:Nat} {R:Rd} {p:Option Addr} {n c:Nat}
theorem RdIn.c0 (h:RdIn w r R p n c):w.cell? ⟨r,0,none⟩=some (.slice p n c):=zAB h.cells rfl
theorem RdIn.c1 (h:RdIn w r R p n c):w.cell? ⟨r,1,none⟩=some (.bool R.bad):=zAB h.cells rfl
theorem RdIn.n_eq (h:RdIn w r R p n c):R.rest.length=n:=by obtain⟨_,_,e⟩:=h.has.slice;simp only[Value.slice.injEq]at e;exact e.2.1.symm
theorem RdIn.rlt (h:RdIn w r R p n c):r<w.heap.size:=(Array.getElem?_eq_some_iff.1 h.cells).1
theorem rd_set (h:RdIn w r R p n c)(b d:Value):((w.setCell ⟨r,0,none⟩ b).setCell ⟨r,1,none⟩ d).heap[r]?=some (.cells #[b,d] 200 (0,0)):=by
 have f:=zAH h.cells 0 b;have i:=zAH f 1 d;simpa using i
theorem rd_set0 (h:RdIn w r R p n c)(b:Value):(w.setCell ⟨r,0,none⟩ b).heap[r]?=some (.cells #[b,.bool R.bad] 200 (0,0)):=by
 have d:=zAH h.cells 0 b;simpa using d
theorem rd_bad (h:RdIn w r R p n c):RdAt ((w.setCell ⟨r,0,none⟩ (.slice none 0 0)).setCell ⟨r,1,none⟩ (.bool true)) r Rd.fail :=
 ⟨none,0,0,rd_set h _ _,zA4.has (e:=0) (OwnR.nil _ _ _),Nat.le_refl _,fun h=>(by cases h),Nat.zero_le _⟩
theorem bad_calls (h:RdIn w r R p n c) :
  Calls prog 176 #[.pointer (some ⟨r,0,none⟩)] w (RStep1 w r Rd.fail (.tuple #[])):=by
 have d:=h.c0;have f:=h.c1;have j:=fun i=>zAE h.cells i;have b:=zW (RStep1 w r Rd.fail (.tuple #[]) (.returned (.tuple #[])) ((w.setCell ⟨r,0,none⟩ (.slice none 0 0)).setCell ⟨r,1,none⟩ (.bool true))) (⟨rfl,rd_bad h,(Chg.setCell w ⟨r,0,none⟩ _).trans (Chg.setCell _ ⟨r,1,none⟩ _) fun _ _ e=>e⟩);clear h
 go_enter func176,ntmps176
 go_wp2_with fail
 go_end0
 exact b.o
theorem zAf.empty (w:World)(a:Option Addr)(c:Nat):zAf w (.slice a 0 c) []:=⟨rfl,a,c,rfl,fun _=>rfl,fun d _ i u b=>(by simp[zAX]at b)⟩
theorem run_tail0 {P:Program}(w:World){t e:TypeId}{i:TypeInfo}(m:P.underlying t=some (.slice e))(j:P.info? e=some i)(d:i.size=1)(p:Option Addr)(b c k:Nat)(h:k≤b)(_h2:b≤c) :
  (Instr.slice t (.slice p b c) (some (.int .i64 (k:Int))) none none).run P w=.ok (.slice (if c=k then p else p.map fun x=>x.add k) (b-k) (c-k)) w:=by
 have f:(Instr.sliceBound (.int .i64 (k:Int)) b .sliceB).run P w=.ok k w:=by
  rw[run_sliceBound _ _ _ _ _ (by omega) (by omega)];simp
 simp[Instr.slice,run_underlying m,Instr.sliceBounds,f,sizeOf,typeInfo,j,Result.andThen,d]
theorem run_tail {P:Program}{w:World}{t e:TypeId}{i:TypeInfo}(A:P.underlying t=some (.slice e))(y:P.info? e=some i)(j:i.size=1){p:Option Addr}{n c:Nat}{l:Bs}(h:zAf w (.slice p n c) l)(f:n≤c)(r k:Nat)(b:(Value.slice p n c).ownBlock≠some r)(z:k≤n) :
  ∃p' c',(∀W,(Instr.slice t (.slice p n c) (some (.int .i64 (k:Int))) none none).run P W=.ok (.slice p' (n-k) c') W)∧zAf w (.slice p' (n-k) c') (l.drop k)∧n-k≤c'∧(Value.slice p' (n-k) c').ownBlock≠some r:=by
 have q:l.length=n:=by obtain⟨_,_,e⟩:=h.slice;simp only[Value.slice.injEq]at e;exact e.2.1.symm
 refine⟨_,_,fun W=>run_tail0 (P:=P) W A y j p n c k z f,?_,by omega,?_⟩
 ·by_cases d:k=n
  ·subst d;rw[List.drop_of_length_le (by omega),Nat.sub_self];exact zAf.empty _ _ _
  ·rw[if_neg (show ¬c=k by omega)];rcases h.at with v|⟨g,o,B,m,C⟩
   ·rw[v]at q;simp at q;omega
   ·simp only[Value.slice.injEq]at m;obtain⟨rfl,-,-⟩:=m;have s:(some (⟨g,o,none⟩:Addr)).map (fun x=>x.add k)=some ⟨g,o+k,none⟩:=by simp[Addr.add]
    rw[s];exact zAf.from h (by omega) _
 ·split
  ·cases p<;>exact b
  ·cases p with
   | none=>intro e;cases e
   | some a =>
    intro e;refine b ?_;rw[←e];simp[Value.ownBlock,zCv]
theorem zAf.set {w:World}{v:Value}{l:Bs}(h:zAf w v l){a:Addr}(u:Value)(b:v.ownBlock≠some a.block):zAf (w.setCell a u) v l :=
 zBH.keep h fun k c=>zAK u fun e=>b (by rw[c,e])
theorem raw_calls (h:RdIn w r R p n c)(k:Int)(I:0≤k)(V:k≤9223372036854775807) :
  Calls prog 164 #[.pointer (some ⟨r,0,none⟩),.int .i64 k] w fun e w'=>∃v,e=.returned v∧zA4 w' 5 v (R.raw k.toNat).1∧(∀j,v.ownBlock=some j→w.heap.size≤j)∧RdAt w' r (R.raw k.toNat).2∧Chg (fun j=>j=r) w w':=by
 obtain⟨i0,H,-,E,-⟩:=info_parts (show(prog.info? 5).map (fun i=>(i.zero,i.size,i.bytes))=some (some (.int .u8 0),1,1) by kernel_rfl);obtain⟨m,rfl⟩:∃m:Nat,k=(m:Int):=⟨k.toNat,by omega⟩;have hn:=h.n_eq;have J:=h.len;rw[Int.toNat_natCast];have K:=h.c0;have S:=fun i=>zAE h.cells i
 by_cases X:m≤n
 ·have s:R.raw m=(R.rest.take m,⟨R.rest.drop m,R.bad⟩):=by unfold Rd.raw;rw[if_pos (by omega)]
  rw[s];obtain⟨B,a,Y,G,t,y⟩:=run_tail (P:=prog) underlying39 H E h.has h.cap r m h.ne X;have Z:∀W,(Instr.slice 39 (.slice p n c) none (some (.int .i64 (m:Int))) none).run prog W=.ok (.slice p m c) W:=fun W=>run_upto W underlying39 H p n c m (by have:=h.cap;omega);have D:=zh (zAx (zAf.cut h.has (k:=m) (by omega) c) (by rw[List.length_take];omega));have b:=zh h;have z:=zh (And.intro G (And.intro t y));clear G t y h s
  go_enter func164,ntmps164
  go_wp2_with fail;refine D.o.mono ?_;rintro e w1 ⟨v,rfl,M,q,A⟩;have f:=A.block r b.o.rlt;have d:RdIn w1 r R p n c:=⟨f.trans b.o.cells,zAf.below b.o.has A,b.o.cap,b.o.ne,b.o.len⟩;have Q:=d.c0;have F:=fun i=>zAE d.cells i;have O:=zh (And.intro (show zA4 (w1.setCell ⟨r,0,none⟩ (.slice B (n-m) a)) 5 v (R.rest.take m)from M.keep fun k I=>zAK _ fun e=>by
   have:=q k I;have h2:=b.o.rlt;have h3:k=r:=e;omega) (And.intro q (And.intro (show RdAt (w1.setCell ⟨r,0,none⟩ (.slice B (n-m) a)) r ⟨R.rest.drop m,R.bad⟩from⟨B,n-m,a,rd_set0 d _,(zAf.set (zAf.below z.o.1 A) _ z.o.2.2),z.o.2.1,z.o.2.2,by rw[List.length_drop];omega⟩)
    (((Chg.of_below A).mono fun _ _ h=>h.elim).trans (Chg.setCell _ ⟨r,0,none⟩ _) fun _ _ e=>e:Chg (fun j=>j=r) w (w1.setCell ⟨r,0,none⟩ (.slice B (n-m) a))))))
  clear M q d f;go_wp2_with fail;go_ret;exact⟨v,rfl,O.o⟩
 ·have s:R.raw m=([],Rd.fail):=by unfold Rd.raw;rw[if_neg (by omega)]
  rw[s];have C:=zh (bad_calls h);have T:((m:Int)>(n:Int)):=by omega
  clear h s
  go_enter func164,ntmps164
  go_wp2_with fail;refine C.o.mono ?_;rintro e w1 ⟨rfl,L,t⟩;have N:=zh (And.intro L t);clear L t;go_wp2_with fail;go_ret;exact⟨_,rfl,OwnR.nil _ _ _,fun j U=>(by cases U),N.o⟩
end
theorem zEn (k:Nat):2 ^ (7*k)=128 ^ k:=by rw[Nat.pow_mul]
theorem zEq {k a x:Nat}(d:a<128 ^ k)(f:k≤8)(i:x<256) :
  bits .or .u64 (a:Int) (IntKind.u64.wrap (IntKind.u64.wrap (bits .and .u8 (x:Int) 127)*2 ^ (7*k)))=((a+x%128*128 ^ k:Nat):Int)∧a+x%128*128 ^ k<128 ^ (k+1)∧a+x%128*128 ^ k<9223372036854775808:=by
 have b:bits .and .u8 (x:Int) 127=((x%128:Nat):Int):=by
  have:=u8_and_nat x 127 i (by decide);rw[Nat.and_two_pow_sub_one_eq_mod x 7]at this;exact this
 have m:x%128<128:=Nat.mod_lt _ (by decide);generalize x%128=y at *;have n:128 ^ k≤128 ^ 8:=Nat.pow_le_pow_right (by decide) f;have j:(128:Nat) ^ 8=72057594037927936:=by decide
 have p:y*128 ^ k≤127*128 ^ k:=Nat.mul_le_mul_right _ (by omega);have o:128 ^ (k+1)=128 ^ k*128:=Nat.pow_succ _ _;have c:((y:Nat):Int)*2 ^ (7*k)=((y*128 ^ k:Nat):Int):=by
  rw[←zEn,Int.natCast_mul,Int.natCast_pow];rfl
 rw[b,IntWalk.u64_in ((y:Nat):Int) (by omega),c,IntWalk.u64_in ((y*128 ^ k:Nat):Int) (by omega),u64_or_nat _ _ (by omega) (by omega),←zEn,or_add (7*k) a y (by rw[zEn];exact d),zEn];refine⟨rfl,by omega,by omega⟩
theorem zAN {w:World}{e:TypeId}{v:Value}{l:Bs}(h:zA4 w e v l):∃p c,v=.slice p l.length c∧l.length≤c:=by
 rcases h.2 with⟨rfl,hn⟩|⟨g,b,cur,rfl,_,d,_⟩
 ·exact⟨none,0,by rw[hn],by omega⟩
 ·exact⟨_,b,rfl,d⟩
def zDF (w:World)(r:Nat)(R:Rd)(e:Ending)(w':World):Prop:=e=.returned (.int .i64 (R.num.1:Int))∧RdAt w' r R.num.2∧Chg (fun k=>k=r) w w'
theorem zEl {w:World}{r:Nat}{R:Rd}{p:Option Addr}{n c:Nat}(h:RdIn w r R p n c) :
  Calls prog 119 #[.pointer (some ⟨r,0,none⟩)] w (zDF w r R):=by
 obtain⟨i0,hi,-,Z,-⟩:=info_parts (show(prog.info? 5).map (fun i=>(i.zero,i.size,i.bytes))=some (some (.int .u8 0),1,1) by kernel_rfl);have hn:=h.n_eq;have S:=h.len;rw[hn]at S;have c0:=h.c0;have ac:=zAE h.cells 0;have b:=zh (bad_calls h);have E:=zW (zCN 0 0 R.rest=none→R.num=(0,Rd.fail)) (fun e=>by unfold Rd.num;rw[e]);have M:=zW (∀v t,zCN 0 0 R.rest=some (v,t)→R.num=(v,⟨t,R.bad⟩)) (fun v t e=>by unfold Rd.num;rw[e]);have z:=zh h;have Hn:=zh hn;clear h hn
 go_enter func119,ntmps119
 go_wp2_with fail
 go_loop [3,13] (fun u i=>∃k a:Nat,k≤n∧k≤9∧i=.int .i64 k∧u=.int .u64 a∧a<128 ^ k∧zCN 0 0 R.rest=zCN k a (R.rest.drop k)) (fun _ i=>n-(intOf i).toNat)
 case atStart=>exact⟨0,0,Nat.zero_le _,by omega,rfl,rfl,by simp,rfl⟩
 case round =>
  obtain⟨k,a,hk,ad,rfl,rfl,ha,m⟩:=hrel
  by_cases T:k<n
  ·have F:k<R.rest.length:=by rw[Hn.o];exact T
   rw[List.drop_eq_getElem_cons F]at m;rcases z.o.has.at with h0|⟨g,o,c1,e1,d⟩
   ·rw[h0]at F;simp at F
   simp only[Value.slice.injEq]at e1;obtain⟨rfl,-,rfl⟩:=e1;have aa:=d k _ (List.getElem?_eq_getElem F);have D:=zh m;clear d m;have hx:=R.rest[k].toNat_lt;have B:=zW (9≤k∨(0<k∧R.rest[k].toNat=0)→zCN k a (R.rest[k]::R.rest.drop (k+1))=none) (fun e=>by
    unfold zCN;rw[if_pos (e.imp id fun e=>⟨e.1,UInt8.toNat.inj (by rw[e.2];rfl)⟩)])
   have J:=zW (¬(9≤k∨(0<k∧R.rest[k].toNat=0))→R.rest[k].toNat<128→zCN k a (R.rest[k]::R.rest.drop (k+1))=if 4611686018427387904<a+R.rest[k].toNat*128 ^ k then none else some (a+R.rest[k].toNat*128 ^ k,R.rest.drop (k+1))) (fun e h=>by
    rw[zCN,if_neg (fun h=>e (h.imp id fun h=>⟨h.1,by rw[h.2];rfl⟩)),if_pos h])
   have L:=zW (¬(9≤k∨(0<k∧R.rest[k].toNat=0))→¬R.rest[k].toNat<128→zCN k a (R.rest[k]::R.rest.drop (k+1))=zCN (k+1) (a+R.rest[k].toNat%128*128 ^ k) (R.rest.drop (k+1))) (fun e h=>by
    rw[zCN,if_neg (fun h=>e (h.imp id fun h=>⟨h.1,by rw[h.2];rfl⟩)),if_neg h])
   generalize R.rest[k].toNat=x at *
   by_cases h9:9≤k
   ·have y:=zh (E.o (D.o.trans (B.o (.inl h9))));go_wp2_with fail;refine b.o.mono ?_;rintro e w1 ⟨rfl,j,d⟩;have s:=zW (zDF w r R (.returned (.int .i64 0)) w1) (⟨by rw[y.o];rfl,by rw[y.o];exact j,d⟩);clear j d;go_wp2_with fail;go_ret;exact s.o
   ·by_cases Y:0<k∧x=0
    ·have y:=zh (E.o (D.o.trans (B.o (.inr Y))));obtain⟨q,rfl⟩:=Y;go_wp2_with fail;refine b.o.mono ?_;rintro e w1 ⟨rfl,j,d⟩;have s:=zW (zDF w r R (.returned (.int .i64 0)) w1) (⟨by rw[y.o];rfl,by rw[y.o];exact j,d⟩);clear j d;go_wp2_with fail;go_ret;exact s.o
    ·have hs:¬(9≤k∨(0<k∧x=0)):=fun e=>e.elim h9 Y;have ab:decide ((9:Int)≤(k:Int))=false:=by simp;omega
     by_cases G:x<128
     ·have y:=zh (D.o.trans (J.o hs G));have V:=zEq ha (by omega) (show x<256 by omega);rw[show x%128=x by omega]at V;obtain⟨V,-,W⟩:=V;generalize a+x*128 ^ k=A at *
      by_cases hA:4611686018427387904<A
      ·have f:=zh (E.o (y.o.trans (if_pos hA)));rcases Nat.lt_or_ge 0 k with q|q
       rotate_left
       ·go_wp2_with fail;refine b.o.mono ?_;rintro e w1 ⟨rfl,j,d⟩;have s:=zW (zDF w r R (.returned (.int .i64 0)) w1) (⟨by rw[f.o];rfl,by rw[f.o];exact j,d⟩);clear j d;go_wp2_with fail;go_ret;exact s.o
       ·have U:0<x:=by omega
        go_wp2_with fail;refine b.o.mono ?_;rintro e w1 ⟨rfl,j,d⟩;have s:=zW (zDF w r R (.returned (.int .i64 0)) w1) (⟨by rw[f.o];rfl,by rw[f.o];exact j,d⟩);clear j d;go_wp2_with fail;go_ret;exact s.o
      ·have f:=zh (M.o _ _ (y.o.trans (if_neg hA)));obtain⟨p',K,X,hh,O,I⟩:=run_tail (P:=prog) underlying39 hi Z z.o.has z.o.cap r (k+1) z.o.ne T;have s:=zW (zDF w r R (.returned (.int .i64 (A:Int))) (w.setCell ⟨r,0,none⟩ (.slice p' (n-(k+1)) K))) (
        ⟨by rw[f.o],by rw[f.o];exact⟨p',n-(k+1),K,rd_set0 z.o _,zAf.set hh _ I,O,I,by rw[List.length_drop,Hn.o];omega⟩,Chg.setCell w ⟨r,0,none⟩ _⟩)
       rw[Int.natCast_add,Int.natCast_one]at X;clear hh O I;rcases Nat.lt_or_ge 0 k with q|q
       rotate_left
       ·go_wp2_with fail;go_ret;exact s.o
       ·have U:0<x:=by omega
        go_wp2_with fail;go_ret;exact s.o
     ·have H:=D.o.trans (L.o hs G);obtain⟨V,N,W⟩:=zEq ha (by omega) (show x<256 by omega);have C:=zh (And.intro H N);clear H N;generalize a+x%128*128 ^ k=A at *;rcases Nat.lt_or_ge 0 k with q|q
      rotate_left
      ·go_wp2_with fail
       go_round
       case rel=>exact⟨k+1,A,by omega,by omega,by go_num,rfl,C.o.2,C.o.1⟩
       case measure=>simp[intOf];omega
      ·have U:0<x:=by omega
       go_wp2_with fail
       go_round
       case rel=>exact⟨k+1,A,by omega,by omega,by go_num,rfl,C.o.2,C.o.1⟩
       case measure=>simp[intOf];omega
  ·have Q:R.rest.drop k=[]:=List.drop_of_length_le (by rw[Hn.o];omega);rw[Q]at m;have y:=zh (E.o m);clear m Q;go_wp2_with fail;refine b.o.mono ?_;rintro e w1 ⟨rfl,j,d⟩;have s:=zW (zDF w r R (.returned (.int .i64 0)) w1) (⟨by rw[y.o];rfl,by rw[y.o];exact j,d⟩);clear j d;go_wp2_with fail;go_ret;exact s.o
def RowDone (w:World)(r:Nat)(b:Bs)(c:Rd)(e:Ending)(w':World):Prop :=
 ∃v,e=.returned v∧zA4 w' 5 v b∧(∀j,v.ownBlock=some j→w.heap.size≤j)∧RdAt w' r c∧Chg (fun j=>j=r) w w'
theorem rbytes_calls {w:World}{r:Nat}{R:Rd}(h:RdAt w r R) :
  Calls prog 110 #[.pointer (some ⟨r,0,none⟩)] w (RowDone w r R.bytes.1 R.bytes.2):=by
 obtain⟨p,n,c,h⟩:=h;have Hn:=zh (zEl h);have A:=Rd.num_le R;have i:=zW (R.bytes=R.num.2.raw R.num.1) rfl;clear h
 go_enter func110,ntmps110
 go_wp2_with fail;refine Hn.o.mono ?_;rintro e w1 ⟨rfl,⟨E,D,C,t⟩,s⟩;have q:=zh (raw_calls t (R.num.1:Int) (by omega) (by omega));have k:=zh s;rw[Int.toNat_natCast]at q;clear t s;generalize R.num.1=m at *;generalize R.num.2=B at *;go_wp2_with fail;refine q.o.mono ?_;rintro e w2 ⟨v,rfl,y,f,d,b⟩;have z:=zW (RowDone w r R.bytes.1 R.bytes.2 (.returned v) w2) (⟨v,rfl,by rw[i.o];exact y,fun j a=>Nat.le_trans k.o.size (f j a),by rw[i.o];exact d,k.o.trans b fun _ _ e=>e⟩);clear y f d b;go_wp2_with fail;go_ret;exact z.o
def RdHd (w:World)(r:Nat)(R:Rd):Prop:=∃p n c,w.heap[r]?=some (.cells #[.slice p n c,.bool R.bad] 200 (0,0))∧R.rest.length=n
theorem RdAt.hd {w:World}{r:Nat}{R:Rd}(h:RdAt w r R):RdHd w r R:=let ⟨p,n,c,h⟩:=h;⟨p,n,c,h.cells,h.n_eq⟩
theorem RdHd.same {w w':World}{r:Nat}{R:Rd}(h:RdHd w r R)(b:w'.heap[r]?=w.heap[r]?):RdHd w' r R:=let ⟨p,n,c,h,e⟩:=h;⟨p,n,c,b.trans h,e⟩
theorem good_calls {w:World}{r:Nat}{R:Rd}(h:RdHd w r R) :
  Calls prog 130 #[.pointer (some ⟨r,0,none⟩)] w fun e w'=>e=.returned (.bool (!R.bad))∧w'=w:=by
 obtain⟨p,n,c,h,-⟩:=h;have b:w.cell? ⟨r,1,none⟩=some (.bool R.bad):=zAB h rfl;clear h
 go_enter func130,ntmps130
 go_wp2_with fail;go_ret;exact⟨rfl,rfl⟩
theorem zCP {w:World}{r:Nat}{R:Rd}(h:RdHd w r R) :
  Calls prog 68 #[.pointer (some ⟨r,0,none⟩)] w fun e w'=>e=.returned (.bool R.whole)∧w'=w:=by
 have d:=zh (good_calls h);obtain⟨p,n,c,h,hn⟩:=h;have j:w.cell? ⟨r,0,none⟩=some (.slice p n c):=zAB h rfl;have b:=zW (R.whole=(!R.bad&&R.rest.isEmpty)) rfl;have i:=zW (R.rest.isEmpty=((n:Int)==0)) (by
  rw[Bool.eq_iff_iff,List.isEmpty_iff,←List.length_eq_zero_iff,hn];simp)
 clear h hn;cases f:R.bad with
 | true =>
  rw[f]at d b
  go_enter func68,ntmps68
  go_wp2_with fail;refine d.o.mono ?_;rintro e w1 ⟨rfl,rfl⟩;go_wp2_with fail;go_ret;exact⟨by rw[b.o];rfl,rfl⟩
 | false =>
  rw[f]at d b
  go_enter func68,ntmps68
  go_wp2_with fail;refine d.o.mono ?_;rintro e w1 ⟨rfl,rfl⟩;go_wp2_with fail;go_ret;exact⟨by rw[b.o,i.o];rfl,rfl⟩
theorem zEN {w:World}{x:Value}{l:Bs}(h:zAf w x l)(j:l.length≤140737488355328) :
  Calls prog 61 #[x] w fun e w'=>∃r,e=.returned (.pointer (some ⟨r,0,none⟩))∧RdAt w' r ⟨l,false⟩∧w.heap.size≤r∧Below w.heap.size w w':=by
 have q:=zh (zAx h j);clear h
 go_enter func61,ntmps61
 go_wp2_with fail;refine q.o.mono ?_;rintro e w1 ⟨v,rfl,f,i,d⟩;obtain⟨p,c,rfl,b⟩:=zAN f;have m:=zW (RdAt (w1.alloc (.cells #[.slice p l.length c,.bool false] 200)) w1.heap.size ⟨l,false⟩) (
  ⟨p,l.length,c,zAF w1 _,zDq f.has _,b,fun e=>by have:=OwnR.lt f e;omega,j⟩)
 have k:=zh (And.intro d.size (d.alloc d.size (.cells #[.slice p l.length c,.bool false] 200)));clear f i d;generalize l.length=n at *;go_wp2_with fail;go_ret;exact⟨_,rfl,m.o,k.o⟩
structure zES (w:World)(k:Nat)(v:Value)(l:Bs):Prop where
 cells:w.heap[k]?=some (.cells #[v] 133 (0,0))
 row:zA4 w 5 v l
 ne:v.ownBlock≠some k
def WrS (k:Nat)(v:Value)(j:Nat):Prop:=j=k∨v.ownBlock=some j
def zA3 (w:World)(k:Nat)(v:Value)(b:Bs)(w':World):Prop :=
 ∃v',zES w' k v' b∧Chg (WrS k v) w w'∧∀j,v'.ownBlock=some j→v.ownBlock=some j∨w.heap.size≤j
def WrTold (w:World)(k:Nat)(v:Value)(b:Bs)(e:Ending)(w':World):Prop:=e=.returned (.tuple #[])∧zA3 w k v b w'
section
variable {w w1 w2:World} {k:Nat} {v:Value} {l l1 l2:Bs}
theorem zES.c0 (h:zES w k v l):w.cell? ⟨k,0,none⟩=some v:=zAB h.cells rfl
theorem zES.klt (h:zES w k v l):k<w.heap.size:=(Array.getElem?_eq_some_iff.1 h.cells).1
theorem zA3.refl (h:zES w k v l):zA3 w k v l w:=⟨v,h,Chg.refl _ _,fun _ h=>.inl h⟩
theorem zA3.trans (h:zA3 w k v l1 w1)(_hk:k<w.heap.size)(f:∀d,zES w1 k d l1→zA3 w1 k d l2 w2):zA3 w k v l2 w2:=by
 obtain⟨d,p,b,c⟩:=h;obtain⟨q,f,i,m⟩:=f d p;refine⟨q,f,b.trans i fun j o n=>?_,fun j o=>?_⟩
 ·rcases n with rfl|n
  ·exact .inl rfl
  ·rcases c j n with h|h
   ·exact .inr h
   ·omega
 ·rcases m j o with h|h
  ·exact c j h
  ·exact .inr (Nat.le_trans b.size h)
theorem zA3.go {f:Value}(p:zES w1 k f l1)(i:Chg (WrS k v) w w1)(hn:∀j,f.ownBlock=some j→v.ownBlock=some j∨w.heap.size≤j)(q:k<w.heap.size)(h:zA3 w1 k f l2 w2):zA3 w k v l2 w2:=by
 obtain⟨o,n,b,c⟩:=h;refine⟨o,n,i.trans b fun j m d=>?_,fun j m=>?_⟩
 ·rcases d with rfl|d
  ·exact .inl rfl
  ·rcases hn j d with h|h
   ·exact .inr h
   ·omega
 ·rcases c j m with h|h
  ·exact hn j h
  ·exact .inr (Nat.le_trans i.size h)
theorem zA3.ahead (f:Below w.heap.size w w1)(_h:zES w k v l)(b:zA3 w1 k v l2 w2):zA3 w k v l2 w2:=by
 obtain⟨n,b,c,d⟩:=b;exact⟨n,b,((Chg.of_below f).mono fun _ _ h=>h.elim).trans c fun _ _ m=>m,fun j i=>(d j i).imp id (Nat.le_trans f.size)⟩
theorem zES.keep (h:zES w k v l)(b:Below w.heap.size w w1):zES w1 k v l :=
 ⟨(b.block k h.klt).trans h.cells,OwnR.keep h.row fun _ c=>b.block _ (OwnR.lt h.row c),h.ne⟩
theorem zES.grown {q:World}{v':Value}{m:Bs}(h:zES w k v l)(n:Below w.heap.size w q)(f:OwnR w1 5 1 v' (l.length+m.length) (zAX l++zAX m))(s:q.grownBy w1 v.ownBlock)(c:v'.ownBlock=v.ownBlock∨∃g,v'.ownBlock=some g∧q.heap.size≤g) :
  zA3 w k v (l++m) (w1.setCell ⟨k,0,none⟩ v'):=by
 have t:=h.klt;have y:=n.size;have p:w1.heap[k]?=some (.cells #[v] 133 (0,0)):=(s.block k (by omega) fun e=>h.ne e.symm).trans ((n.block k t).trans h.cells);have b:∀j,v'.ownBlock=some j→v.ownBlock=some j∨w.heap.size≤j:=fun j i=>by
  rcases c with e|⟨g,e,o⟩
  ·exact .inl (e▸i)
  ·rw[i]at e;cases e;exact .inr (Nat.le_trans y o)
 have d:v'.ownBlock≠some k:=fun e=>by
  rcases b k e with r|r
  ·exact h.ne r
  ·omega
 refine⟨v',⟨?_,?_,d⟩,?_,b⟩
 ·have:=zAH p 0 v';simpa using this
 ·have:zA4 w1 5 v' (l++m):=by
   unfold zA4;rw[bytesV_app,List.length_append];exact f
  exact OwnR.keep this fun j i=>zAK _ fun e=>d (by rw[i];exact congrArg some e)
 ·refine(((Chg.of_below n).mono fun _ _ h=>h.elim).trans (Chg.of_grown s) fun j _ e=>.inr e.symm).trans (Chg.setCell _ ⟨k,0,none⟩ _) fun j _ e=>.inl e
theorem wraw_calls (h:zES w k v l){p:Option Addr}{n c:Nat}{m:Bs}(z:zAf w (.slice p n c) m)(Q:l.length+m.length≤140737488355328) :
  Calls prog 142 #[.pointer (some ⟨k,0,none⟩),.slice p n c] w (WrTold w k v (l++m)):=by
 obtain⟨M,L,A,B,C⟩:=info_parts (show(prog.info? 5).map (fun i=>(i.zero,i.size,i.bytes))=some (some (.int .u8 0),1,1) by kernel_rfl);have hn:m.length=n:=by obtain⟨_,_,e⟩:=z.slice;simp only[Value.slice.injEq]at e;exact e.2.1.symm
 subst hn;have N:=h.c0;have q:=h.row;have J:=zh z;have t:=zh h;clear h z;generalize G:l.length=a at *;have D:=zh G;generalize H:m.length=b at *;have E:=zh H;clear G H;have s:=zh (show OwnR w 5 1 v a (zAX l) by have:=q;unfold zA4 at this;rwa[D.o]at this);have y:=zh (show zBH w 1 (.slice p b c) b (zAX m) by have:=J.o;unfold zAf at this;rwa[E.o]at this);clear q
 go_enter func142,ntmps142
 go_wp2_with (at_builtin;refine zAc _ rfl (.tmp 10) (.tmp 11) 39 rfl 5 M (.int .u8 0) 1 1 underlying39 L A B C rfl (by decide) v a _ rfl s.o (.slice p b c) b _ rfl y.o (zAZ _) (by unfold maxLen;omega) (by omega) ?_;intro S w1 f d j;go_loud (have F:=zES.grown (m:=m) t.o (Below.refl _ _) (by rw[D.o,E.o];exact f) d j;have r:=(d.block k t.o.klt fun e=>t.o.ne e.symm).trans t.o.cells;have O:=cell0 r;have P:=zAE r 0;have I:=zh F;clear r F d j;obtain⟨R,q1,rfl⟩:=OwnR.shape f;clear f))
 go_end0
 exact⟨rfl,I.o⟩
end
def HasI (w:World)(v:Value)(zs:List Int):Prop:=zBH w 1 v zs.length (zs.map (Value.int .i64))
theorem HasI.at {w:World}{v:Value}{l:List Int}(h:HasI w v l):l=[]∨∃b o c,v=.slice (some ⟨b,o,none⟩) l.length c∧∀i x,l[i]?=some x→w.cell? ⟨b,o+i,none⟩=some (.int .i64 x):=by
 obtain⟨s,p,c,rfl,j,f⟩:=h;cases p with
 | none=>exact .inl (List.length_eq_zero_iff.1 (j rfl))
 | some a =>
  cases l with
  | nil=>exact .inl rfl
  | cons x r =>
   obtain⟨b,o,q⟩:=a;have k:=f _ rfl 0 (.int .i64 x) (by simp);have d:q=none:=by
    have:=World.cell?_spot k;simpa[Addr.add]using this
   subst d;refine .inr ⟨b,o,c,rfl,fun i y n=>?_⟩;have m:=f _ rfl i (.int .i64 y) (by rw[List.getElem?_map,n];rfl);have e:(⟨b,o,none⟩:Addr).add i=⟨b,o+i,none⟩:=by unfold Addr.add;split<;>simp_all
   rw[←e];exact m
theorem HasI.slice {w:World}{v:Value}{l:List Int}(h:HasI w v l):∃p c,v=.slice p l.length c:=by
 obtain⟨_,p,c,e,_⟩:=h;exact⟨p,c,e⟩
theorem numsI_take {zs:List Int}{j:Nat}(b:j<zs.length):zA5 (zs.take (j+1))=zA5 (zs.take j)++zEU zs[j]:=by
 rw[List.take_succ_eq_append_getElem b];simp only[zA5,List.map_append,List.map_cons,List.map_nil,List.flatten_append,List.flatten_cons,List.flatten_nil,List.append_nil]
theorem zEk (z:Int):(zEU z).length≤9:=zAk (by omega)
theorem zAq (zs:List Int):(zA5 zs).length≤9*zs.length:=by
 induction zs with
 | nil=>simp[zA5]
 | cons z r ih =>
  have:=zEk z;simp only[zA5,List.map_cons,List.flatten_cons,List.length_append,List.length_cons]at ih ⊢;omega
theorem or_high (a:Nat):bits .or .u8 ((a:Int)%256) 128=(((UInt8.ofNat (a%128+128)).toNat:Nat):Int):=by
 have b:(a:Int)%256=((a%256:Nat):Int):=by omega
 have c:∀y:Fin 256,(y.val ||| 128)=y.val%128+128:=by decide +kernel
 have d:(a%256 ||| 128)=a%256%128+128:=c ⟨a%256,by omega⟩;rw[b];have f:=u8_or_nat (a%256) 128 (by omega) (by decide);refine Eq.trans f ?_;rw[d,UInt8.toNat_ofNat'];omega
theorem al_old (w:World)(o:Obj){k:Nat}(h:k<w.heap.size):(w.alloc o).heap[k]?=w.heap[k]?:=((Below.refl w.heap.size w).alloc (Nat.le_refl _) o).block k h
theorem zCc {w:World}{e:TypeId}{v:Value}{n:Nat}{xs:List Value}(h:OwnR w e 1 v n xs)(o:Obj):OwnR (w.alloc o) e 1 v n xs:=h.keep fun _ b=>al_old w _ (OwnR.lt h b)
theorem zDY (w:World)(x:UInt8):zBH (w.alloc (.cells #[.int .u8 (x.toNat:Int)] 5)) 1 (.slice (some ⟨w.heap.size,0,none⟩) 1 1) 1 (zAX [x]):=has_lit #[.int .u8 (x.toNat:Int)] [x] _ 1 1 rfl rfl rfl
theorem wnums_calls {w:World}{k:Nat}{v:Value}{l:Bs}(h:zES w k v l){p:Option Addr}{n c:Nat}{zs:List Int}(M:∀W,Chg (WrS k v) w W→HasI W (.slice p n c) zs)
  (hz:∀z∈zs,-9223372036854775808≤z∧z≤9223372036854775807) (hl:l.length+9*zs.length≤140737488355000) :
  Calls prog 77 #[.pointer (some ⟨k,0,none⟩),.slice p n c] w (WrTold w k v (l++zA5 zs)):=by
 obtain⟨i0,hi,X,Y,Z⟩:=info_parts (show(prog.info? 5).map (fun i=>(i.zero,i.size,i.bytes))=some (some (.int .u8 0),1,1) by kernel_rfl);have hn:zs.length=n:=by obtain⟨_,_,e⟩:=(M w (Chg.refl _ _)).slice;simp only[Value.slice.injEq]at e;exact e.2.1.symm
 have Hn:=zh hn;have Hx:=zh M;have Hz:=zh hz;have ae:n≤140737488355000:=by omega
 have Hl:=zh hl;have H0:=zh (zA3.refl h);have Hk:=zh h.klt;clear M hz hl h hn
 go_enter func77,ntmps77
 go_wp2_with fail
 go_loopw [11] (fun i wr=>∃j:Nat,j≤n∧i=.int .i64 j∧zA3 w k v (l++zA5 (zs.take j)) wr) (fun i _=>n-(intOf i).toNat)
 case atStart=>exact⟨0,Nat.zero_le _,rfl,by simpa[zA5]using H0.o⟩
 case round =>
  obtain⟨j,hj,rfl,A⟩:=hrel
  by_cases ad:j<n
  ·have y:j<zs.length:=by rw[Hn.o];exact ad
   obtain⟨v1,hv1,L,U⟩:=A;rcases(Hx.o wr L).at with h0|⟨b,o,c2,e2,hcell⟩
   ·rw[h0]at y;simp at y
   rw[Hn.o]at e2;simp only[Value.slice.injEq]at e2;obtain⟨rfl,-,rfl⟩:=e2;have aj:=hcell j _ (List.getElem?_eq_getElem y);obtain⟨af,ag⟩:=Hz.o _ (List.getElem_mem y);have ac:=zh (numsI_take y);generalize zs[j]=z at *;have ab:=zW (zA3 w k v (l++zA5 (zs.take j)) wr) (⟨v1,hv1,L,U⟩);clear hcell hv1 L U y;obtain⟨N,hN,R⟩:∃N:Nat,max 0 (min z 4611686018427387904)=(N:Int)∧N≤4611686018427387904:=⟨(max 0 (min z 4611686018427387904)).toNat,by omega,by omega⟩;have HN:=zh (show zEU z=zET N by unfold zEU;rw[hN];rfl);have aa:=zW ((l++zA5 (zs.take j)++zET N).length≤140737488355200) (by
    have h1:=zAq (zs.take j);have h2:=zAk R;have h3:=Hl.o;have h4:(zs.take j).length≤zs.length:=by rw[List.length_take];omega
    rw[List.length_append,List.length_append];omega)
   go_wp2_with fail
   go_loopw [6] (fun u wi=>∃(a:Nat) (cur:Bs),u=.int .u64 a∧a≤4611686018427387904∧zA3 w k v cur wi∧cur++zET a=l++zA5 (zs.take j)++zET N) (fun u _=>(intOf u).toNat)
   case atStart=>exact⟨N,_,rfl,R,ab.o,rfl⟩
   case round =>
    obtain⟨a,cur,rfl,ha,A,D⟩:=hrel;have T:=aa.o;rw[←D,List.length_append]at T;have ai:=numB_len a;obtain⟨v2,F,S,V⟩:=A;have I:=F.klt;have c2:=F.c0;have r:=zh F;have t:=zh (And.intro S V);have G:=zh D;clear S V F D;generalize hL:cur.length=m at *;have K:=zh hL;clear hL;have H:=zh (show OwnR wr 5 1 v2 m (zAX cur) by have:=r.o.row;unfold zA4 at this;rwa[K.o]at this)
    by_cases P:128≤a
    ·have J:=zh (zDN P);have ak:=or_high a;generalize UInt8.ofNat (a%128+128)=x at *;go_wp2_with (at_builtin;have C:=zCc H.o (.cells #[.int .u8 (x.toNat:Int)] 5);have E:=zDY wr x;refine zAc _ rfl (.tmp 27) (.tmp 31) 39 rfl 5 i0 (.int .u8 0) 1 1 underlying39 hi X Y Z rfl (by decide) v2 m _ rfl C (.slice (some ⟨wr.heap.size,0,none⟩) 1 1) 1 _ rfl E (zAZ _) (by unfold maxLen;omega) (by omega) ?_;clear C E;intro v3 w3 f d q;go_loud (have Q:=zES.grown (m:=[x]) r.o ((Below.refl _ _).alloc (Nat.le_refl _) _) (by rw[K.o];exact f) d q;have s:=(d.block k (by simp;omega) fun e=>r.o.ne e.symm).trans ((al_old wr (.cells #[.int .u8 (x.toNat:Int)] 5) I).trans r.o.cells);have c3:=cell0 s;have f3:=zAE s 0;have O:=zh Q;clear s Q d q;obtain⟨p3,q3,rfl⟩:=OwnR.shape f;clear f))
     go_roundw
     case rel=>exact⟨a/128,cur++[x],by first|rfl|go_num,by omega,zA3.go r.o t.o.1 t.o.2 Hk.o O.o,by rw[←G.o,J.o];simp⟩
     case measure=>simp[intOf];omega
    ·have B:=zh (zBk (n:=a) (by omega));obtain⟨x,M⟩:∃x:UInt8,a=x.toNat:=⟨UInt8.ofNat a,by rw[UInt8.toNat_ofNat'];omega⟩;rw[show UInt8.ofNat a=x by rw[M];simp]at B;subst M;have al:(x.toNat:Int)%256=(x.toNat:Int):=by omega
     have ah:=x.toNat_lt;go_wp2_with (at_builtin;have C:=zCc H.o (.cells #[.int .u8 (x.toNat:Int)] 5);have E:=zDY wr x;refine zAc _ rfl (.tmp 39) (.tmp 42) 39 rfl 5 i0 (.int .u8 0) 1 1 underlying39 hi X Y Z rfl (by decide) v2 m _ rfl C (.slice (some ⟨wr.heap.size,0,none⟩) 1 1) 1 _ rfl E (zAZ _) (by unfold maxLen;omega) (by omega) ?_;clear C E;intro v3 w3 f d q;go_loud (have Q:=zES.grown (m:=[x]) r.o ((Below.refl _ _).alloc (Nat.le_refl _) _) (by rw[K.o];exact f) d q;have s:=(d.block k (by simp;omega) fun e=>r.o.ne e.symm).trans ((al_old wr (.cells #[.int .u8 (x.toNat:Int)] 5) I).trans r.o.cells);have c3:=cell0 s;have f3:=zAE s 0;have O:=zh Q;clear s Q d q;obtain⟨p3,q3,rfl⟩:=OwnR.shape f;clear f))
     go_roundw
     case rel=>exact⟨j+1,by omega,by go_num,by
      rw[ac.o,HN.o,←List.append_assoc,←G.o,B.o];exact zA3.go r.o t.o.1 t.o.2 Hk.o O.o⟩
     case measure=>simp[intOf];omega
  ·have he:zs.take j=zs:=List.take_of_length_le (by rw[Hn.o];omega);rw[he]at A;have O:=zh A;clear A he;go_wp2_with fail
   go_end0
   exact⟨rfl,O.o⟩
theorem HasI.one {w:World}(z:Int)(e:TypeId)(fr:Nat×Nat)(g c:Nat)(d:g=w.heap.size):HasI (w.alloc (.cells #[.int .i64 z] e fr)) (.slice (some ⟨g,0,none⟩) 1 c) [z]:=by
 subst d;refine⟨by simp,some ⟨w.heap.size,0,none⟩,c,rfl,fun e=>(by cases e),fun a b i u f=>?_⟩;cases b;rw[add_zero];refine zAB (zAF w _) ?_;simpa using f
theorem zA3.told {w:World}{k:Nat}{v:Value}{l:Bs}{w':World}(h:zA3 w k v l w'):WrTold w k v l (.returned (.tuple #[])) w':=⟨rfl,h⟩
theorem wnum_one {w:World}{k:Nat}{v:Value}{l:Bs}(h:zES w k v l)(z:Int)(q:-9223372036854775808≤z∧z≤9223372036854775807)(o:l.length+9≤140737488355000)(g c:Nat)(f:g=w.heap.size)(fr:Nat×Nat) :
  Calls prog 77 #[.pointer (some ⟨k,0,none⟩),.slice (some ⟨g,0,none⟩) 1 c] (w.alloc (.cells #[.int .i64 z] 3 fr)) (WrTold (w.alloc (.cells #[.int .i64 z] 3 fr)) k v (l++zEU z)):=by
 have b:=h.keep ((Below.refl _ _).alloc (Nat.le_refl _) (.cells #[.int .i64 z] 3 fr));have i:=HasI.one (w:=w) z 3 fr g c f;have H:=wnums_calls b (zs:=[z]) (fun W d=>zBH.chg i d fun j m p=>by
  have n:j=g:=by cases m;rfl
  rcases p with e|e
  ·have:=h.klt;omega
  ·have:=OwnR.lt h.row e;omega) (by simpa using q) (by simpa using o)
 rwa[show zA5 [z]=zEU z by simp[zA5]]at H
def OneRel (b:World)(k:Nat)(v:Value)(l:Bs)(i:Value)(wr:World):Prop:=(i=.int .i64 0∧wr=b)∨(i=.int .i64 1∧zA3 b k v l wr)
theorem wbytes_one {w:World}{k:Nat}{v:Value}{l:Bs}(h:zES w k v l){pv:Option Addr}{m cv:Nat}{x:Bs}(G:∀W,Chg (WrS k v) w W→zAf W (.slice pv m cv) x)(J:l.length+x.length≤140737488354000)(g c:Nat)(I:g=w.heap.size)(fr:Nat×Nat) :
  Calls prog 78 #[.pointer (some ⟨k,0,none⟩),.slice (some ⟨g,0,none⟩) 1 c] (w.alloc (.cells #[.slice pv m cv] 39 fr)) (WrTold (w.alloc (.cells #[.slice pv m cv] 39 fr)) k v (l++zAw x)):=by
 have L:x.length=m:=by obtain⟨_,_,e⟩:=(G w (Chg.refl _ _)).slice;simp only[Value.slice.injEq]at e;exact e.2.1.symm
 have p:Below w.heap.size w (w.alloc (.cells #[.slice pv m cv] 39 fr)):=(Below.refl _ _).alloc (Nat.le_refl _) _;have E:=h.keep p;have a:∀W,Chg (WrS k v) (w.alloc (.cells #[.slice pv m cv] 39 fr)) W→zAf W (.slice pv m cv) x:=fun W R=>G W (((Chg.of_below p).mono fun _ _ h=>h.elim).trans R fun _ _ h=>h);have F:(w.alloc (.cells #[.slice pv m cv] 39 fr)).cell? ⟨g,0,none⟩=some (.slice pv m cv):=by rw[I];exact zAB (zAF w _) rfl
 have S:∀j,WrS k v j→j≠g:=fun j A e=>by
  have E:=h.klt;rcases A with A|A
  ·omega
  ·have:=OwnR.lt h.row A;omega
 clear I G p;generalize w.alloc (.cells #[.slice pv m cv] 39 fr)=Q at *;have M:m≤140737488354000:=by omega
 have N:=zh L;have P:=zh a;have B:=zh E;have H:=zh J;clear L h E a J
 go_enter func78,ntmps78
 go_wp2_with fail
 go_loopw [8] (OneRel Q k v (l++zAw x)) (fun i _=>1-(intOf i).toNat)
 case atStart=>exact .inl ⟨rfl,rfl⟩
 case round =>
  rcases hrel with⟨rfl,rfl⟩|⟨rfl,y⟩
  ·have r:=wnum_one B.o (m:Int) (by omega) (by have:=H.o;omega) wr.heap.size 1 rfl (0,0);rw[zDa (show m≤4611686018427387904 by omega)]at r;have D:=zh r;clear r;go_wp2_with fail;refine D.o.mono ?_;rintro e w2 ⟨rfl,b⟩;have z:=zA3.ahead ((Below.refl _ _).alloc (Nat.le_refl _) _) B.o b;obtain⟨T,s,q,t⟩:=z;have O:=zh (wraw_calls s (P.o w2 q) (by
    rw[List.length_append];have:=zAk (n:=m) (by omega);have:=H.o;omega))
   have f:=zh (And.intro s (And.intro q t));clear b s q t;go_wp2_with fail;refine O.o.mono ?_;rintro e w3 ⟨rfl,d⟩;have C:=zW (zA3 wr k v (l++zAw x) w3) (by
    have:=zA3.go f.o.1 f.o.2.1 f.o.2.2 B.o.klt d;rwa[List.append_assoc,←N.o]at this)
   clear d;go_wp2_with fail;go_roundw
   case rel=>exact .inr ⟨rfl,C.o⟩
   case measure=>simp[intOf]
  ·have C:=zh y;clear y;go_wp2_with fail
   go_end0
   exact⟨rfl,C.o⟩
theorem zDR {w:World}{k:Nat}{v:Value}{l:Bs}(h:zES w k v l)(m:l.length≤140737488355328) :
  Calls prog 81 #[.pointer (some ⟨k,0,none⟩)] w fun e w'=>∃v,e=.returned v∧zA4 w' 5 v l∧(∀j,v.ownBlock=some j→w.heap.size≤j)∧Below w.heap.size w w':=by
 have p:=h.c0;have i:=zh (zAx h.row.has m);clear h
 go_enter func81,ntmps81
 go_wp2_with fail;refine i.o.mono ?_;rintro e w1 ⟨n,rfl,d,b,c⟩;have f:=zh (And.intro d (And.intro b c));clear d b c;go_wp2_with fail;go_ret;exact⟨n,rfl,f.o⟩
def RowVs (W:World)(g:Nat)(rows:List (Value×Bs)):Prop:=∀j p,rows[j]?=some p→W.cell? ⟨g,j,none⟩=some p.1∧zAf W p.1 p.2
def zBL (rows:List (Value×Bs)):Bs:=rows.flatMap fun p=>zAw p.2
theorem rowsB_take {rows:List (Value×Bs)}{j:Nat}(b:j<rows.length):zBL (rows.take (j+1))=zBL (rows.take j)++zAw rows[j].2:=by
 unfold zBL;rw[List.take_succ_eq_append_getElem b,List.flatMap_append];simp
theorem rowsB_le (rows:List (Value×Bs))(j:Nat):(zBL (rows.take j)).length≤(zBL rows).length:=by
 have:zBL rows=zBL (rows.take j)++zBL (rows.drop j):=by
  unfold zBL;rw[←List.flatMap_append,List.take_append_drop]
 rw[this,List.length_append];omega
theorem wbytes_calls {w:World}{k:Nat}{v:Value}{l:Bs}(h:zES w k v l){g n c:Nat}{rows:List (Value×Bs)}(hn:rows.length=n)(hx:∀W,Chg (WrS k v) w W→RowVs W g rows)
  (Y:l.length+(zBL rows).length≤140737488354000) (K:n≤1099511627776) :
  Calls prog 78 #[.pointer (some ⟨k,0,none⟩),.slice (some ⟨g,0,none⟩) n c] w (WrTold w k v (l++zBL rows)):=by
 have Hn:=zh hn;have V:=zh hx;have U:=zh Y;have H0:=zh (zA3.refl h);have Hk:=zh h.klt;clear hx Y h hn
 go_enter func78,ntmps78
 go_wp2_with fail
 go_loopw [8] (fun i wr=>∃j:Nat,j≤n∧i=.int .i64 j∧zA3 w k v (l++zBL (rows.take j)) wr) (fun i _=>n-(intOf i).toNat)
 case atStart=>exact⟨0,Nat.zero_le _,rfl,by simpa[zBL]using H0.o⟩
 case round =>
  obtain⟨j,hj,rfl,r⟩:=hrel;obtain⟨N,S⟩:∃N,N=wr:=⟨_,rfl⟩;subst S
  by_cases R:j<n
  ·have d:j<rows.length:=by rw[Hn.o];exact R
   obtain⟨v1,hv1,A,I⟩:=r;have E:=V.o N A j _ (List.getElem?_eq_getElem d);obtain⟨pv,cv,C⟩:=E.2.slice;have f:(l++zBL (rows.take j)).length+(zAw rows[j].2).length≤140737488354000:=by
    have a:=rowsB_le rows (j+1);rw[rowsB_take d,List.length_append]at a;rw[List.length_append];have:=U.o;omega
   have G:=zh (rowsB_take d);have Q:=zh (fun W (hc:Chg (WrS k v) w W)=>(V.o W hc j _ (List.getElem?_eq_getElem d)).2);generalize rows[j]=p at *;obtain⟨T,x⟩:=p;have C:T=.slice pv x.length cv:=C;subst C;have ab:N.cell? ⟨g,j,none⟩=some (.slice pv x.length cv):=E.1;obtain⟨m,hm⟩:∃m,m=x.length:=⟨_,rfl⟩;have ac:x.length≤140737488354000:=by
    have:(zAw x).length=(zET x.length).length+x.length:=by simp[zAw]
    have Z:(l++zBL (rows.take j)).length+(zAw x).length≤140737488354000:=f;omega
   clear f;have f:(l++zBL (rows.take j)).length+(zAw x).length≤140737488354000:=by
    have a:=rowsB_le rows (j+1);rw[G.o,List.length_append]at a;have aa:(zBL (rows.take j)).length+(zAw x).length≤(zBL rows).length:=a;rw[List.length_append];have:=U.o;omega
   have s:(zAw x).length=(zET x.length).length+x.length:=by simp[zAw]
   have q:=wnum_one hv1 (x.length:Int) (by omega) (by have:=zAk (n:=x.length) (by omega);omega) N.heap.size 1 rfl (0,0);rw[zDa (show x.length≤4611686018427387904 by omega)]at q;have P:=zh q;have b:=zh (And.intro hv1 (And.intro A I));have F:=zh (And.intro f s);clear q hv1 A I f s E d hm;go_wp2_with fail;refine P.o.mono ?_;rintro e w2 ⟨rfl,t⟩;have M:=zA3.ahead ((Below.refl _ _).alloc (Nat.le_refl _) _) b.o.1 t;obtain⟨v2,D,B,J⟩:=M;have H:Chg (WrS k v) w w2:=b.o.2.1.trans B fun i hi L=>by
    rcases L with L|L
    ·exact .inl L
    ·rcases b.o.2.2 i L with h|h
     ·exact .inr h
     ·omega
   have Hr:=zh (wraw_calls D (Q.o w2 H) (by
    rw[List.length_append];have a:=F.o.1;have X:=F.o.2;omega))
   have z:=zh (And.intro D (And.intro B J));clear t D B J H;go_wp2_with fail;refine Hr.o.mono ?_;rintro e w3 ⟨rfl,y⟩;have O:=zW (zA3 w k v (l++zBL (rows.take (j+1))) w3) (by
    have a:=zA3.go z.o.1 z.o.2.1 z.o.2.2 b.o.1.klt y;have X:=zA3.go b.o.1 b.o.2.1 b.o.2.2 Hk.o a;rw[G.o];rwa[List.append_assoc,List.append_assoc]at X)
   clear y;go_wp2_with fail;go_roundw
   case rel=>exact⟨j+1,by omega,by go_num,O.o⟩
   case measure=>simp[intOf];omega
  ·obtain rfl:j=n:=by omega
   rw[←Hn.o,List.take_length]at r;have O:=zh r;clear r;go_wp2_with fail
   go_end0
   exact⟨rfl,O.o⟩
def WrB (B:Nat)(w:World)(k:Nat)(l:Bs):Prop:=∃v,zES w k v l∧B≤k∧(∀j,v.ownBlock=some j→B≤j)∧B≤w.heap.size
def WrNext (B:Nat)(w:World)(k:Nat)(l:Bs)(e:Ending)(w':World):Prop:=e=.returned (.tuple #[])∧WrB B w' k l∧Below B w w'
section
variable {B:Nat} {w w1:World} {k:Nat} {l:Bs}
theorem WrB.keep (h:WrB B w k l)(b:Below w.heap.size w w1):WrB B w1 k l:=let ⟨v,h1,h2,h3,h4⟩:=h;⟨v,h1.keep b,h2,h3,Nat.le_trans h4 b.size⟩
theorem wrB_new (w:World):WrB w.heap.size (w.alloc (.cells #[.slice none 0 0] 133)) w.heap.size [] :=
 ⟨.slice none 0 0,⟨zAF w _,OwnR.nil _ _ _,fun h=>(by cases h)⟩,Nat.le_refl _,fun j b=>(by cases b),by simp⟩
theorem wrB_told {o:World}{v:Value}{e:Ending}{w':World}{n:Bs}(f:Below w.heap.size w o)(p:B≤k)(d:∀j,v.ownBlock=some j→B≤j)(q:B≤w.heap.size)(r:WrTold o k v n e w'):WrNext B w k n e w':=by
 obtain⟨rfl,v',c,m,hn⟩:=r;have b:=f.size;refine⟨rfl,⟨v',c,p,fun j s=>?_,by have:=m.size;omega⟩,?_⟩
 ·rcases hn j s with h|h
  ·exact d j h
  ·omega
 ·refine(((Chg.of_below f).mono fun _ _ h=>h.elim).trans m fun _ _ b=>b:Chg (WrS k v) w w').below q fun i t b=>?_;rcases b with rfl|b
  ·omega
  ·have:=d i b;omega
theorem HasI.lit {w:World}(zs:List Int)(b:Array Value)(h:b.toList=zs.map (Value.int .i64))(e:TypeId)(fr:Nat×Nat)(g n c:Nat)(j:g=w.heap.size)(hn:n=zs.length):HasI (w.alloc (.cells b e fr)) (.slice (some ⟨g,0,none⟩) n c) zs:=by
 subst j;subst hn;refine⟨by simp,some ⟨w.heap.size,0,none⟩,c,rfl,fun e=>(by cases e),fun a f i u d=>?_⟩;cases f;rw[add_zero];refine zAB (zAF w _) ?_;rw[←h]at d;simpa using d
theorem zCC (h:WrB B w k l)(zs:List Int)(b:Array Value)(f:b.toList=zs.map (Value.int .i64))(A:∀z∈zs,-9223372036854775808≤z∧z≤9223372036854775807)(s:l.length+9*zs.length≤140737488355000)(g n c:Nat)(r:g=w.heap.size)(hn:n=zs.length)(fr:Nat×Nat) :
  Calls prog 77 #[.pointer (some ⟨k,0,none⟩),.slice (some ⟨g,0,none⟩) n c] (w.alloc (.cells b 3 fr)) (WrNext B w k (l++zA5 zs)):=by
 obtain⟨v,d,j,m,o⟩:=h;have i:=zAC w (.cells b 3 fr);have C:=d.klt;refine(wnums_calls (d.keep i) (zs:=zs) (fun W q=>zBH.chg (HasI.lit zs b f _ _ g n c r hn) q fun x y t=>?_) A s).mono fun e w' p=>wrB_told i j m o p;have a:x=g:=by cases y;rfl
 rcases t with e|e
 ·omega
 ·have:=OwnR.lt d.row e;omega
theorem wrB_out (h:WrB B w k l)(f:l.length≤140737488355328) :
  Calls prog 81 #[.pointer (some ⟨k,0,none⟩)] w fun e w'=>∃v,e=.returned v∧zA4 w' 5 v l∧(∀j,v.ownBlock=some j→B≤j)∧Below B w w':=by
 obtain⟨v,c,n,o,b⟩:=h;refine(zDR c f).mono ?_;rintro e w' ⟨u,rfl,i,hn,d⟩;exact⟨u,rfl,i,fun x m=>Nat.le_trans b (hn x m),d.mono b⟩
end
def E0:zBu:=⟨[],[],[],[]⟩
theorem zAI.bel {w w':World}{eb vm sm tm am:Nat}{E:zBu}{own:Nat→Option (Nat×Bs)}(h:zAI w eb vm sm tm am E own)(b:Below w.heap.size w w'):zAI w' eb vm sm tm am E own:=h.keep (fun k c=>b.block k (h.oLt k c)) b.size
theorem vk_calls (w:World)(b:Nat) :
  Calls prog 133 #[.map (some b)] w fun e w'=>e=.returned (.func (.func 185) #[] #[.pointer (some ⟨w.heap.size,0,none⟩)])∧w'=w.alloc (.cells #[.map (some b)] 152) :=
 (callsIn_wide (n:=5)).1 (Tryz.maps_Keys_133 (some b) w)
theorem vs_none {w:World}{vm:Nat}(h:VsIs w vm []) :
  Calls prog 132 #[.func (.func 185) #[] #[.pointer (some ⟨w.heap.size,0,none⟩)]] (w.alloc (.cells #[.map (some vm)] 152)) (NilR w):=by
 obtain⟨es,c,d,b⟩:=zEj _ h;refine((callsIn_wide (n:=5)).1 (Tryz.slices_Sorted_keys_132_133 vm 0 (.map es) ptrE.R w c (by rw[b];exact Nat.zero_le _) (by rw[b];decide))).mono ?_;rintro e w' ⟨v,k,rfl,i,m,hn,f⟩;have j:k=[]:=by
  have:=(i.trans d).length_eq;exact List.eq_nil_of_length_eq_zero this
 exact⟨by rw[hn.2 j],(zAC w _).trans (f.mono (by simp))⟩
section
variable {w:World} {eb vm sm tm am:Nat} {own:Nat→Option (Nat×Bs)}
theorem keys0_calls (h:zAI w eb vm sm tm am E0 own):Calls prog 71 #[.pointer (some ⟨eb,0,none⟩)] w (NilR w):=by
 have i:w.cell? ⟨eb,0,none⟩=some (.map (some vm)):=zAB h.cells rfl;have d:=zh (vk_calls w vm);have f:=zh (vs_none (w:=w) (vm:=vm) h.vaults);clear h
 go_enter func71,ntmps71
 go_wp2_with fail;refine d.o.mono ?_;rintro e w' ⟨rfl,rfl⟩;go_wp2_with fail;refine f.o.mono ?_;rintro e w2 ⟨rfl,b⟩;have c:=zh b;clear b;go_wp2_with fail;go_ret;exact⟨rfl,c.o⟩
theorem transits0_calls (h:zAI w eb vm sm tm am E0 own):Calls prog 115 #[.pointer (some ⟨eb,0,none⟩)] w (NilR w):=by
 have i:w.cell? ⟨eb,2,none⟩=some (.map (some tm)):=zAB h.cells rfl;have d:=zh (keysT_calls w (some tm));have f:=zh (sortedT_none (w:=w) h.trans);clear h
 go_enter func115,ntmps115
 go_wp2_with fail;refine d.o.mono ?_;rintro e w' ⟨rfl,rfl⟩;go_wp2_with fail;refine f.o.mono ?_;rintro e w2 ⟨rfl,b⟩;have c:=zh b;clear b;go_wp2_with fail;refine wp_loop_rounds 1 ?_;rw[rounds_succ];go_wp2_with fail;go_ret;exact⟨rfl,c.o⟩
def NewR (w:World)(l:Bs)(e:Ending)(w':World):Prop:=∃v,e=.returned v∧zA4 w' 5 v l∧(∀j,v.ownBlock=some j→w.heap.size≤j)∧Below w.heap.size w w'
end
theorem nums0:zA5 [0]=[0]:=by
 unfold zA5;rw[List.map_cons,List.map_nil,List.flatten_cons,List.flatten_nil,show((0:Int))=((0:Nat):Int)from rfl,zDa (by decide),zBk (by decide)];rfl
section
variable {w:World} {eb vm sm tm am:Nat} {own:Nat→Option (Nat×Bs)}
theorem zDW (h:zAI w eb vm sm tm am E0 own):Calls prog 52 #[.pointer (some ⟨eb,0,none⟩)] w (NewR w [0,0,0,0]):=by
 have z:=zh (zAC w (.cells #[.slice none 0 0] 133));have E:=zh (h.bel z.o);have k:(w.alloc (.cells #[.slice none 0 0] 133)).cell? ⟨eb,0,none⟩=some (.map (some vm)):=zAB E.o.cells rfl;have s:∀ty,(Builtin.len_ #[152] ty #[.map (some vm)]).run prog (w.alloc (.cells #[.slice none 0 0] 133))=.ok (.int .i64 0) (w.alloc (.cells #[.slice none 0 0] 133)):=fun ty=>zAd.len E.o.vaults underlying152 ty;obtain⟨y,d⟩:∃y,y=w.alloc (.cells #[.slice none 0 0] 133):=⟨_,rfl⟩;have F:=zW (WrB w.heap.size y w.heap.size []) (d▸wrB_new w);have A:=zW (zAI y eb vm sm tm am E0 own∧Below w.heap.size w y) (⟨d▸E.o,d▸z.o⟩);have R:=zh (show w.heap.size+1=y.heap.size by rw[d];simp);have t:=zh d;have H:=zh h;clear h d
 go_enter func52,ntmps52
 go_wp2_with fail;rw[←t.o];clear t k s;refine(zCC F.o [0] #[.int .i64 0] rfl (by simp) (by decide) (w.heap.size+1) 1 1 R.o rfl (0,0)).mono ?_;rintro e V ⟨rfl,c,b⟩;rw[nums0]at c;have G:=zW (WrB w.heap.size V w.heap.size [0]) c;have m:=zh (And.intro (H.o.bel (A.o.2.trans b)) (A.o.2.trans b));clear c b;have f:=zh (keys0_calls m.o.1);go_wp2_with fail;refine f.o.mono ?_;rintro e B ⟨rfl,b⟩;have I:=zh (G.o.keep b);have n:=zh (And.intro (m.o.1.bel b) (m.o.2.trans (b.mono m.o.2.size)));clear b f;have k:B.cell? ⟨eb,1,none⟩=some (.map (some sm)):=zAB n.o.1.cells rfl;have s:∀ty,(Builtin.len_ #[153] ty #[.map (some sm)]).run prog B=.ok (.int .i64 0) B:=fun ty=>zAd.len n.o.1.sess underlying153 ty;go_wp2_with fail;refine wp_loop_rounds 1 ?_;rw[rounds_succ];go_wp2_with fail;clear k s;refine(zCC I.o [0] #[.int .i64 0] rfl (by simp) (by decide) B.heap.size 1 1 rfl rfl (0,0)).mono ?_;rintro e S ⟨rfl,c,b⟩;rw[nums0]at c;have J:=zW (WrB w.heap.size S w.heap.size [0,0]) c;have i:=zh (And.intro (H.o.bel (n.o.2.trans b)) (n.o.2.trans b));clear c b;have f:=zh (keysS_calls S (some sm));have a:=zh (sortedS_none i.o.1.sess);have k:S.cell? ⟨eb,1,none⟩=some (.map (some sm)):=zAB i.o.1.cells rfl;go_wp2_with fail;refine f.o.mono ?_;rintro e w' ⟨rfl,rfl⟩;go_wp2_with fail;refine a.o.mono ?_;rintro e C ⟨rfl,b⟩;clear k a;have L:=zh (J.o.keep b);have p:=zh (And.intro (i.o.1.bel b) (i.o.2.trans (b.mono i.o.2.size)));clear b f;have k:C.cell? ⟨eb,2,none⟩=some (.map (some tm)):=zAB p.o.1.cells rfl;have s:∀ty,(Builtin.len_ #[154] ty #[.map (some tm)]).run prog C=.ok (.int .i64 0) C:=fun ty=>zAd.len p.o.1.trans underlying154 ty;go_wp2_with fail;refine wp_loop_rounds 1 ?_;rw[rounds_succ];go_wp2_with fail;clear k s;refine(zCC L.o [0] #[.int .i64 0] rfl (by simp) (by decide) C.heap.size 1 1 rfl rfl (0,0)).mono ?_;rintro e W ⟨rfl,c,b⟩;rw[nums0]at c;have M:=zW (WrB w.heap.size W w.heap.size [0,0,0]) c;have q:=zh (And.intro (H.o.bel (p.o.2.trans b)) (p.o.2.trans b));clear c b;have f:=zh (transits0_calls q.o.1);go_wp2_with fail;refine f.o.mono ?_;rintro e D ⟨rfl,b⟩;have N:=zh (M.o.keep b);have r:=zh (And.intro (q.o.1.bel b) (q.o.2.trans (b.mono q.o.2.size)));clear b f;have k:D.cell? ⟨eb,3,none⟩=some (.map (some am)):=zAB r.o.1.cells rfl;have s:∀ty,(Builtin.len_ #[155] ty #[.map (some am)]).run prog D=.ok (.int .i64 0) D:=fun ty=>zAd.len r.o.1.arr underlying155 ty;go_wp2_with fail;refine wp_loop_rounds 1 ?_;rw[rounds_succ];go_wp2_with fail;clear k s;refine(zCC N.o [0] #[.int .i64 0] rfl (by simp) (by decide) D.heap.size 1 1 rfl rfl (0,0)).mono ?_;rintro e T ⟨rfl,c,b⟩;rw[nums0]at c;have O:=zW (WrB w.heap.size T w.heap.size [0,0,0,0]) c;have j:=zh (And.intro (H.o.bel (r.o.2.trans b)) (r.o.2.trans b));clear c b;have f:=zh (keysA_calls T (some am));have a:=zh (sortedA_none j.o.1.arr);have k:T.cell? ⟨eb,3,none⟩=some (.map (some am)):=zAB j.o.1.cells rfl;go_wp2_with fail;refine f.o.mono ?_;rintro e w' ⟨rfl,rfl⟩;go_wp2_with fail;refine a.o.mono ?_;rintro e X ⟨rfl,b⟩;clear k a;have P:=zh (O.o.keep b);have Q:=zh (And.intro (j.o.1.bel b) (j.o.2.trans (b.mono j.o.2.size)));clear b f;go_wp2_with fail;refine wp_loop_rounds 1 ?_;rw[rounds_succ];go_wp2_with fail;refine(wrB_out P.o (by decide)).mono ?_;rintro e Y ⟨v,rfl,U,hn,b⟩;have t:=zh (And.intro U (And.intro hn (Q.o.2.trans b)));clear U hn b;go_wp2_with fail;go_ret;exact⟨v,rfl,t.o.1,t.o.2.1,t.o.2.2⟩
end
def NewE (B:Nat)(w:World)(eb:Nat):Prop:=∃vm sm tm am own,zAI w eb vm sm tm am E0 own∧∀k,own k≠none→B≤k
theorem NewE.bel {B:Nat}{w w':World}{eb:Nat}(h:NewE B w eb)(b:Below w.heap.size w w'):NewE B w' eb:=let ⟨vm,sm,tm,am,own,h1,h2⟩:=h;⟨vm,sm,tm,am,own,h1.bel b,h2⟩
theorem NewE.less {B C:Nat}{w:World}{eb:Nat}(h:NewE B w eb)(b:C≤B):NewE C w eb:=let ⟨vm,sm,tm,am,own,h1,h2⟩:=h;⟨vm,sm,tm,am,own,h1,fun k c=>Nat.le_trans b (h2 k c)⟩
def EconN (w:World):World:=((((w.alloc (.map #[] 0)).alloc (.map #[] 0)).alloc (.map #[] 0)).alloc (.map #[] 0)).alloc (.cells #[.map (some w.heap.size),.map (some (w.heap.size+1)),.map (some (w.heap.size+2)),.map (some (w.heap.size+3))] 157)
theorem econN_new (w:World):NewE w.heap.size (EconN w) (w.heap.size+4)∧Below w.heap.size w (EconN w):=by
 obtain⟨w1,j⟩:∃w1,w1=w.alloc (.map #[] 0):=⟨_,rfl⟩;obtain⟨w2,m⟩:∃w2,w2=w1.alloc (.map #[] 0):=⟨_,rfl⟩;obtain⟨w3,n⟩:∃w3,w3=w2.alloc (.map #[] 0):=⟨_,rfl⟩;obtain⟨b,o⟩:∃b,b=w3.alloc (.map #[] 0):=⟨_,rfl⟩;have e:EconN w=b.alloc (.cells #[.map (some w.heap.size),.map (some (w.heap.size+1)),.map (some (w.heap.size+2)),.map (some (w.heap.size+3))] 157):=by rw[o,n,m,j];rfl
 have C:w1.heap.size=w.heap.size+1:=by rw[j];simp
 have D:w2.heap.size=w.heap.size+2:=by rw[m];simp[C]
 have E:w3.heap.size=w.heap.size+3:=by rw[n];simp[D]
 have F:b.heap.size=w.heap.size+4:=by rw[o];simp[E]
 obtain⟨i,q⟩:∃i,i=EconN w:=⟨_,rfl⟩;have I:i.heap.size=w.heap.size+5:=by rw[q,e];simp[F]
 have h:Below w.heap.size w w1:=j▸zAC w _;have A:Below w1.heap.size w1 w2:=m▸zAC w1 _;have b3:Below w2.heap.size w2 w3:=n▸zAC w2 _;have B:Below w3.heap.size w3 b:=o▸zAC w3 _;have b5:Below b.heap.size b i:=by rw[q,e];exact zAC b _
 have f:=B.trans (b5.mono B.size);have d:=b3.trans (f.mono b3.size);have c:=A.trans (d.mono A.size);have v:=h.trans (c.mono h.size);have G:i.heap[w.heap.size+4]?=some (zDJ w.heap.size (w.heap.size+1) (w.heap.size+2) (w.heap.size+3)):=by
  rw[q,e,←F];exact zAF b _
 rw[←q];have a:zAd w1 prog 9 (strK underlying9) ptrE w.heap.size ([]:List (Bs×Nat)):=j▸zDM w;have r:zAd w2 prog 3 (intK underlying3) sessE w1.heap.size ([]:List (Int×Sess)):=m▸zDM w1;have s:zAd w3 prog 164 zBt transE w2.heap.size ([]:List ((Int×Int)×zDm)):=n▸zDM w2;have t:zAd b prog 164 zBt boolE w3.heap.size ([]:List ((Int×Int)×Bool)):=o▸zDM w3;have a:=a.keep (c.block _ (by omega));have r:=r.keep (d.block _ (by omega));have s:=s.keep (f.block _ (by omega));have t:=t.keep (b5.block _ (by omega));rw[C]at r;rw[D]at s;rw[E]at t;refine⟨⟨w.heap.size,w.heap.size+1,w.heap.size+2,w.heap.size+3,fun k=>if k=w.heap.size+4 then some (0,[])else if k=w.heap.size then some (1,[])else if k=w.heap.size+1 then some (2,[])else if k=w.heap.size+2 then some (3,[])else if k=w.heap.size+3 then some (4,[])else none,⟨G,a,fun p z=>(by cases z),r,s,t,if_pos rfl,?_,?_,?_,?_,fun p z=>(by cases z),fun k y=>?_⟩,fun k y=>?_⟩,v⟩
 ·rw[if_neg (by omega),if_pos rfl]
 ·rw[if_neg (by omega),if_neg (by omega),if_pos rfl]
 ·rw[if_neg (by omega),if_neg (by omega),if_neg (by omega),if_pos rfl]
 ·rw[if_neg (by omega),if_neg (by omega),if_neg (by omega),if_neg (by omega),if_pos rfl]
 ·refine Classical.byContradiction fun H=>y ?_;rw[if_neg (by omega),if_neg (by omega),if_neg (by omega),if_neg (by omega),if_neg (by omega)]
 ·refine Classical.byContradiction fun H=>y ?_
  show(if _ then _ else _)=_
  rw[if_neg (by omega),if_neg (by omega),if_neg (by omega),if_neg (by omega),if_neg (by omega)]
def EReadO (r eb:Nat):Obj:=.cells #[.pointer (some ⟨r,0,none⟩),.pointer (some ⟨eb,0,none⟩),.bool true] 120 (0,0)
theorem zDE {w:World}{f r eb:Nat}{R:Rd}(j:w.heap[f]?=some (EReadO r eb))(t:RdAt w r R)(s:R.num.1=0)(q:Value) :
  Calls prog 67 #[.pointer (some ⟨f,0,none⟩),q] w fun e w'=>e=.returned (.tuple #[])∧RdAt w' r R.num.2∧Chg (fun k=>k=r) w w':=by
 have v:w.cell? ⟨f,0,none⟩=some (.pointer (some ⟨r,0,none⟩)):=zAB j rfl;obtain⟨p,n,c,h⟩:=t;have d:=zh (zEl h);unfold zDF at d;rw[show((R.num.1:Nat):Int)=0 by rw[s];rfl]at d;clear h j
 go_enter func67,ntmps67
 go_wp2_with fail;refine d.o.mono ?_;rintro e w2 ⟨rfl,b,i⟩;have m:=zh (And.intro b i);clear b i;go_wp2_with fail;refine wp_loop_rounds 1 ?_;rw[rounds_succ];go_wp2_with fail
 go_end0
 exact⟨rfl,m.o⟩
def DecE (w:World)(e:Ending)(w':World):Prop:=∃eb,e=.returned (.tuple #[.pointer (some ⟨eb,0,none⟩),.int .i64 0])∧NewE w.heap.size w' eb∧Below w.heap.size w w'
theorem num0 (l:Bs)(b:Bool):Rd.num ⟨0::l,b⟩=(0,⟨l,b⟩):=by
 have h:=Rd.num_of (n:=0) (by decide) l b;rw[zBk (by decide)]at h;exact h
theorem NewE.chg {B:Nat}{w w':World}{eb:Nat}{S:Nat→Prop}(h:NewE B w eb)(c:Chg S w w')(hS:∀k,B≤k→¬S k):NewE B w' eb:=by
 obtain⟨vm,sm,tm,am,own,b,f⟩:=h;exact⟨vm,sm,tm,am,own,b.keep (fun k d=>c.block k (b.oLt k d) (hS k (f k d))) c.size,f⟩
structure Dec4 (w:World)(B xb g r eb:Nat)(fo:Obj)(l:Bs)(W:World):Prop where
 x:W.heap[xb]?=some (EReadO r eb)
 fn:W.heap[g]?=some fo
 rd:RdAt W r ⟨l,false⟩
 eco:NewE B W eb
 bel:Below w.heap.size w W
 le1:w.heap.size≤r
 le2:r<B
 le3:B≤xb
 le4:B≤g
theorem Dec4.next {w:World}{B c g r eb:Nat}{d:Obj}{l f:Bs}{W W':World}(h:Dec4 w B c g r eb d l W)(o:RdAt W' r ⟨f,false⟩)(b:Chg (fun k=>k=r) W W'):Dec4 w B c g r eb d f W':=by
 have i:=h.le1;have j:=h.le2;have m:=h.le3;have n:=h.le4;exact⟨(b.block c (zAA h.x) (by omega)).trans h.x,(b.block g (zAA h.fn) (by omega)).trans h.fn,o,h.eco.chg b (fun k p e=>by omega),h.bel.trans (b.below h.bel.size fun k _ e=>by omega),i,j,m,n⟩
theorem zEa {w:World}{x:Value}(M:zAf w x [0,0,0,0]):Calls prog 28 #[x] w (DecE w):=by
 have S:=zh (zEN M (by decide));obtain⟨p,c,rfl⟩:=M.slice;have T:=zh M;clear M;rw[show([0,0,0,0]:Bs).length=4 from rfl]at S T ⊢;have Hn:=zh (fun W=>econew_calls W)
 go_enter func28,ntmps28
 go_wp2_with fail;refine S.o.mono ?_;rintro e w1 ⟨r,rfl,d,H,D⟩;have i:=zh (And.intro d (And.intro H D));clear d H D;go_wp2_with fail;refine(Hn.o _).mono ?_;rintro e w2 ⟨rfl,I⟩;have C:=econN_new w1;rw[show EconN w1=w2 from I.symm]at C;have q:=zh C;clear I C;obtain⟨eb,F⟩:∃eb,eb=w1.heap.size+4:=⟨_,rfl⟩;rw[←F]at q ⊢;clear F;go_wp2_with fail;obtain⟨J,A⟩:∃J,J=(w2.alloc (.cells #[.pointer (some ⟨r,0,none⟩),.pointer (some ⟨eb,0,none⟩),.bool true] 120)).alloc (.cells #[.func (.func 63) #[.pointer (some ⟨w2.heap.size,0,none⟩)] #[],.func (.func 64) #[.pointer (some ⟨w2.heap.size,0,none⟩)] #[],.func (.func 65) #[.pointer (some ⟨w2.heap.size,0,none⟩)] #[],.func (.func 66) #[.pointer (some ⟨w2.heap.size,0,none⟩)] #[]] 1):=⟨_,rfl⟩;have B:=(zAC w2 (.cells #[.pointer (some ⟨r,0,none⟩),.pointer (some ⟨eb,0,none⟩),.bool true] 120)).trans ((zAC (w2.alloc (.cells #[.pointer (some ⟨r,0,none⟩),.pointer (some ⟨eb,0,none⟩),.bool true] 120)) (.cells #[.func (.func 63) #[.pointer (some ⟨w2.heap.size,0,none⟩)] #[],.func (.func 64) #[.pointer (some ⟨w2.heap.size,0,none⟩)] #[],.func (.func 65) #[.pointer (some ⟨w2.heap.size,0,none⟩)] #[],.func (.func 66) #[.pointer (some ⟨w2.heap.size,0,none⟩)] #[]] 1)).mono (zAC w2 _).size);have s:=zW (Dec4 w w1.heap.size w2.heap.size (w2.heap.size+1) r eb (.cells #[.func (.func 63) #[.pointer (some ⟨w2.heap.size,0,none⟩)] #[],.func (.func 64) #[.pointer (some ⟨w2.heap.size,0,none⟩)] #[],.func (.func 65) #[.pointer (some ⟨w2.heap.size,0,none⟩)] #[],.func (.func 66) #[.pointer (some ⟨w2.heap.size,0,none⟩)] #[]] 1 (0,0)) [0,0,0,0] J) (by
  rw[A];have V:=q.o.2.size;have Q:=i.o.2.2.size;have m:=q.o.2.trans (B.mono V);have G:r<w1.heap.size:=by
   obtain⟨Z,Y,U,f⟩:=i.o.1;exact f.rlt
  exact⟨zAW _ (zAF w2 _),zAn w2 _ _,by
   obtain⟨Z,Y,U,f⟩:=i.o.1;exact⟨Z,Y,U,(m.block r G).trans f.cells,zAf.below f.has m,f.cap,f.ne,f.len⟩,q.o.1.bel B,i.o.2.2.trans (m.mono Q),i.o.2.1,G,V,by omega⟩)
 rw[←A];clear A B;refine wp_loop_rounds 5 ?_;rw[rounds_succ];have h:J.cell? ⟨w2.heap.size+1,0,none⟩=some (.func (.func 63) #[.pointer (some ⟨w2.heap.size,0,none⟩)] #[]):=zAB s.o.fn rfl;have j:=zh (fun a=>zDE s.o.x s.o.rd (by rw[num0]) a);go_wp2_with fail;refine(j.o _).mono ?_;rintro e V1 ⟨rfl,d,n⟩;rw[num0]at d;have t:=zh (s.o.next d n);clear d n h j;go_wp2_with fail;rw[rounds_succ];have h:V1.cell? ⟨w2.heap.size+1,1,none⟩=some (.func (.func 64) #[.pointer (some ⟨w2.heap.size,0,none⟩)] #[]):=zAB t.o.fn rfl;have j:=zh (fun a=>zDE t.o.x t.o.rd (by rw[num0]) a);go_wp2_with fail;refine(j.o _).mono ?_;rintro e V2 ⟨rfl,d,n⟩;rw[num0]at d;have y:=zh (t.o.next d n);clear d n h j;go_wp2_with fail;rw[rounds_succ];have h:V2.cell? ⟨w2.heap.size+1,2,none⟩=some (.func (.func 65) #[.pointer (some ⟨w2.heap.size,0,none⟩)] #[]):=zAB y.o.fn rfl;have j:=zh (fun a=>zDE y.o.x y.o.rd (by rw[num0]) a);go_wp2_with fail;refine(j.o _).mono ?_;rintro e V3 ⟨rfl,d,n⟩;rw[num0]at d;have z:=zh (y.o.next d n);clear d n h j;go_wp2_with fail;rw[rounds_succ];have h:V3.cell? ⟨w2.heap.size+1,3,none⟩=some (.func (.func 66) #[.pointer (some ⟨w2.heap.size,0,none⟩)] #[]):=zAB z.o.fn rfl;have j:=zh (fun a=>zDE z.o.x z.o.rd (by rw[num0]) a);go_wp2_with fail;refine(j.o _).mono ?_;rintro e P ⟨rfl,d,n⟩;rw[num0]at d;have b:=zh (z.o.next d n);clear d n h j;go_wp2_with fail;rw[rounds_succ];have x0:P.cell? ⟨w2.heap.size,0,none⟩=some (.pointer (some ⟨r,0,none⟩)):=zAB b.o.x rfl;have x1:P.cell? ⟨w2.heap.size,1,none⟩=some (.pointer (some ⟨eb,0,none⟩)):=zAB b.o.x rfl;have x2:P.cell? ⟨w2.heap.size,2,none⟩=some (.bool true):=zAB b.o.x rfl;have O:=zh (zCP b.o.rd.hd);go_wp2_with fail;refine O.o.mono ?_;rintro e V5 ⟨E,rfl⟩;rw[show(Rd.whole ⟨[],false⟩)=true from rfl]at E;subst E;have N:=zW (∃vm sm tm am own,zAI V5 eb vm sm tm am E0 own∧∀k,own k≠none→w1.heap.size≤k) b.o.eco;obtain⟨vm,sm,tm,am,own,C,ho⟩:=N.o;have K:=zh (zDW C);clear C;go_wp2_with fail;refine K.o.mono ?_;rintro e V6 ⟨v,rfl,X,hn,L⟩;have HQ:=zh (zCI (zA4.has X) (zAf.below T.o (b.o.bel.trans (L.mono b.o.bel.size))));have R:=zh L;have aa:V6.cell? ⟨w2.heap.size,1,none⟩=some (.pointer (some ⟨eb,0,none⟩)):=zAB ((L.block _ (zAA b.o.x)).trans b.o.x) rfl;clear X hn L;go_wp2_with fail;refine HQ.o.mono ?_;rintro e V7 ⟨E,rfl⟩;rw[show(([0,0,0,0]:Bs)==[0,0,0,0])=true from rfl]at E;subst E;go_wp2_with fail
 go_ret2
 exact⟨eb,rfl,(b.o.eco.bel R.o).less (by have:=b.o.le1;have:=b.o.le2;omega),b.o.bel.trans (R.o.mono b.o.bel.size)⟩
structure zAj where
 id:Int
 fr:ByteArray
 tu:ByteArray
 epoch:Int
 state:Int
def zAj.v (h:zAj):Value:=.agg #[.int .i64 h.id,.string h.fr,.string h.tu,.int .i64 h.epoch,.int .i64 h.state]
def zAj.is (h:zAj):Bool:=decide (1≤h.id)&&decide (h.id≤1048576)&&zC9 h.fr h.tu&&decide (1≤h.epoch)&&decide (h.epoch≤1099511627776)&&decide (1≤h.state)&&decide (h.state≤3)
def zAj.wf (h:zAj):Prop:=h.fr.size≤9223372036854775807∧h.tu.size≤9223372036854775807
theorem zDt (w:World)(h:zAj)(m:h.wf):Calls prog 27 #[.agg #[.int .i64 h.id,.string h.fr,.string h.tu,.int .i64 h.epoch,.int .i64 h.state]] w (RetB h.is w):=by
 obtain⟨d,fr,tu,f,i⟩:=h;have q:=zh (fun W=>spanis_calls W fr tu m.1 m.2);have j:=zh (zAC w (.cells #[.int .i64 d,.string fr,.string tu,.int .i64 f,.int .i64 i] 35));have n:zAj.is ⟨d,fr,tu,f,i⟩=(decide (1≤d)&&decide (d≤1048576)&&zC9 fr tu&&decide (1≤f)&&decide (f≤1099511627776)&&decide (1≤i)&&decide (i≤3)):=rfl;rw[n];clear n m;dsimp only
 by_cases p:1≤d∧d≤1048576
 ·obtain⟨p,t⟩:=p
  go_enter func27,ntmps27
  go_wp2_with fail;refine(q.o _).mono ?_;rintro e w2 ⟨rfl,c⟩;have k:=zW (Below w.heap.size w w2) (c▸j.o.trans ((zAC _ _).mono j.o.size));have r:w2.cell? ⟨w.heap.size,3,none⟩=some (.int .i64 f):=by rw[c];exact zAB (zAW _ (zAF w _)) rfl
  have s:w2.cell? ⟨w.heap.size,4,none⟩=some (.int .i64 i):=by rw[c];exact zAB (zAW _ (zAF w _)) rfl
  clear c;cases v:zC9 fr tu
  all_goals
   go_wp2_with fail
   all_goals
    go_ret;refine⟨?_,k.o⟩;refine congrArg (fun b=>Ending.returned (.bool b)) (?_:_=_);rw[Bool.eq_iff_iff]
    simp_all
    try omega
 ·go_enter func27,ntmps27
  go_wp2_with fail
  all_goals
   go_ret;refine⟨?_,j.o⟩
   congr 2
   simp_all
   try omega
theorem digits_len {n:Nat}(hn:n<100):(Lib.decDigits n).length≤2:=by
 by_cases h:n<10
 ·rw[Lib.decDigits_one h];simp
 ·rw[Lib.decDigits_two h hn];simp
theorem pre_cat (l:Bs):(⟨#[122]⟩:ByteArray)++⟨l.toArray⟩=⟨(122::l).toArray⟩:=by
 apply ByteArray.ext;simp
def zpre (n:Nat):ByteArray:=⟨(122::Lib.decDigits n).toArray⟩
theorem zEo (w:World)(n:Nat)(hn:n<100):Calls prog 31 #[.int .i64 (n:Int)] w fun e w'=>e=.returned (.string (zpre n))∧w'=w:=by
 have b:=zh (fun W=>Tryz.strconv_Itoa_small n hn W);have c:=zh (pre_cat (Lib.decDigits n));have d:=digits_len hn
 go_enter func31,ntmps31
 go_wp2_with fail;refine(b.o _).mono ?_;rintro e w2 ⟨rfl,rfl⟩;go_wp2_with fail;go_ret;exact⟨by rw[show zpre n=_ from c.o.symm];rfl,rfl⟩
theorem indexS_none (w:World)(b:Value):Calls prog 131 #[.slice none 0 0,b] w fun e w'=>e=.returned (.int .i64 (-1))∧w'=w:=by
 go_enter func131,ntmps131
 go_wp2_with fail;refine wp_loop_rounds 1 ?_;rw[rounds_succ];go_wp2_with fail;go_ret;exact⟨rfl,rfl⟩
theorem containsS_none (w:World)(b:Value):Calls prog 70 #[.slice none 0 0,b] w fun e w'=>e=.returned (.bool false)∧w'=w:=by
 have c:=zh (fun W=>indexS_none W b)
 go_enter func70,ntmps70
 go_wp2_with fail;refine(c.o _).mono ?_;rintro e w2 ⟨rfl,rfl⟩;go_wp2_with fail;go_ret;exact⟨rfl,rfl⟩
theorem fits0_calls {w:World}{eb vm sm tm am:Nat}{own:Nat→Option (Nat×Bs)}(h:zAI w eb vm sm tm am E0 own)(a b:ByteArray):Calls prog 29 #[.pointer (some ⟨eb,0,none⟩),.agg #[.string a,.string b]] w (RetB true w):=by
 have c:=zh (zAC w (.cells #[.string a,.string b] 27));have j:=zh (keys0_calls (h.bel c.o));have i:=zh (fun W k=>containsS_none W k);clear h
 go_enter func29,ntmps29
 go_wp2_with fail;refine j.o.mono ?_;rintro e w2 ⟨rfl,f⟩;have d:=zh (c.o.trans (f.mono c.o.size));clear f;go_wp2_with fail;refine(i.o _ _).mono ?_;rintro e w3 ⟨rfl,rfl⟩;go_wp2_with fail;go_ret;exact⟨rfl,d.o⟩
theorem zBC (w:World)(s:ByteArray):∃c w',(convert 9 39 (.string s)).run prog w=.ok (.slice (some ⟨w.heap.size,0,none⟩) s.size c) w' ∧
  (∀W,(∀k,k=w.heap.size→W.heap[k]?=w'.heap[k]?)→zAf W (.slice (some ⟨w.heap.size,0,none⟩) s.size c) s.data.toList)∧Below w.heap.size w w'∧w'.heap.size=w.heap.size+1:=by
 refine⟨_,_,Lib.run_convert_string_bytes w 9 39 5 s underlying9 underlying39 underlying5,fun W o=>?_,?_,Lib.bytesWorld_size _ _ _⟩
 ·have b:s.data.toList.length=s.size:=by simp
  have d:(zAX s.data.toList).length=s.size:=by simp[zAX]
  refine⟨by rw[b,d];simp,some ⟨w.heap.size,0,none⟩,_,by rw[b],fun e=>(by cases e),fun a p i u j=>?_⟩;cases p;rw[add_zero];have f:i<s.size:=by
   rw[←d];exact(List.getElem?_eq_some_iff.1 j).1
  have m:=Lib.bytesWorld_cell w 5 s i f;have n:W.cell? ⟨w.heap.size,i,none⟩=(Lib.bytesWorld w 5 s).cell? ⟨w.heap.size,i,none⟩:=by
   unfold World.cell?;simp only[o _ rfl]
  rw[n,m];unfold zAX at j;rw[List.getElem?_map,List.getElem?_eq_getElem (show i<s.data.toList.length by rw[b];exact f)]at j;cases j;rw[show s.data.toList.getD i 0=s.data.toList[i]'(by rw[b];exact f) by rw[List.getD_eq_getElem?_getD,List.getElem?_eq_getElem (show i<s.data.toList.length by rw[b];exact f)];rfl]
 ·have m:=zAC w.drew (.cells (Lib.bytesCells w 5 s) 5);refine⟨rfl,rfl,rfl,?_,fun k q=>Lib.bytesWorld_at_old w _ s k q⟩;rw[Lib.bytesWorld_size];omega
theorem zDS {B:Nat}{m w:World}{k:Nat}{l:Bs}(h:WrB B m k l)(b:Below m.heap.size m w){rows:List (Value×Bs)}(f:Array Value)(s:f.toList=rows.map (·.1))
  (M:∀W,(∀i,m.heap.size≤i→i<w.heap.size→W.heap[i]?=w.heap[i]?)→∀p∈rows,zAf W p.1 p.2)
  (L:l.length+(zBL rows).length≤140737488354000) (g n c:Nat) (I:g=w.heap.size) (hn:rows.length=n) (y:n≤1099511627776) (fr:Nat×Nat) :
  Calls prog 78 #[.pointer (some ⟨k,0,none⟩),.slice (some ⟨g,0,none⟩) n c] (w.alloc (.cells f 39 fr)) (WrNext B w k (l++zBL rows)):=by
 have N:=h.keep b;obtain⟨v,q,E,F,G⟩:=h;have a:=b.size;have r:=zAC w (.cells f 39 fr);have O:=q.klt;have D:∀j,WrS k v j→j<m.heap.size:=fun j o=>by
  rcases o with o|o
  ·omega
  ·exact OwnR.lt q.row o
 refine(wbytes_calls ((q.keep b).keep r) hn (fun W A j p C=>?_) L y).mono fun e w' H=>wrB_told r E F (Nat.le_trans G a) H;have d:=zAF w (.cells f 39 fr);rw[←I]at d;refine⟨zAB ((A.block g (zAA d) fun z=>by have:=D g z;omega).trans d) ?_,M W (fun i J t=>?_) p (List.mem_of_getElem? C)⟩
 ·have:f.toList[j]?=some p.1:=by rw[s,List.getElem?_map,C];rfl
  simpa using this
 ·exact(A.block i (by simp;omega) fun z=>by have:=D i z;omega).trans (r.block i t)
end Go.Proofs.YtmcanphlgkolcaaGreatDoor

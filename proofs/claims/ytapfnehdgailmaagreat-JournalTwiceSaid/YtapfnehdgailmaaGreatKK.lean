/- What the program's functions and the document's do, and plain laws, for PJournalTwice. -/
import Derived.StillTailTactics
import Derived.Test.YtapfnehdgailmaaGreatKA
import Derived.Test.YtapfnehdgailmaaGreatKD
import Derived.Test.YtapfnehdgailmaaGreatKE
import Derived.Test.YtapfnehdgailmaaGreatKJ
open Go.Proofs.Tryz
set_option maxRecDepth 100000
set_option maxHeartbeats 64000000
namespace Go.Proofs.YtapfnehdgailmaaGreat
open Go.RowKit Go.Sat Go.Maps
def NewO (w:World)(l:Bs)(e:Ending)(w':World):Prop:=∃v,e=.returned v∧zAj w' 5 v l∧(∀k,v.ownBlock=some k→w.heap.size≤k)∧Below w.heap.size w w'
theorem own_lit {w:World}(cs:Array Value)(l:Bs)(e:TypeId)(h:cs.toList=zAQ l)(n:Nat)(hn:n=l.length)(b:n≤maxLen):zAj (w.alloc (.cells cs e)) e (.slice (some ⟨w.heap.size,0,none⟩) n n) l:=by
 subst hn;refine⟨by rw[zFK,Nat.mul_one],.inr ⟨_,_,cs,rfl,zAI w _,Nat.le_refl _,?_,?_,?_⟩⟩
 ·exact b
 ·have:=congrArg List.length h;rw[zFK]at this;simpa using Nat.le_of_eq this.symm
 ·rw[h,←zFK l,Nat.mul_one,List.take_length]
theorem zFx {w:World}(v:Nat)(l:v<4294967296) :
  Calls prog 183 #[.int .u32 (v:Int)] w (NewO w (zA4 v)):=by
 have b:NewO w (zA4 v) (.returned (.slice (some ⟨w.heap.size,0,none⟩) 4 4)) (w.alloc (.cells #[.int .u8 ((v:Int)%256),.int .u8 ((v:Int)/256%256),.int .u8 ((v:Int)/65536%256),.int .u8 ((v:Int)/16777216)] 5)) :=
  ⟨_,rfl,own_lit _ (zA4 v) _ (by
   simp only[zA4,zAQ,List.map_cons,List.map_nil,UInt8.toNat_ofNat'];have d:(v:Int)/16777216=((v/16777216%256:Nat):Int):=by omega
   have f:(v:Int)%256=((v%256:Nat):Int):=by omega
   have g:(v:Int)/256%256=((v/256%256:Nat):Int):=by omega
   have i:(v:Int)/65536%256=((v/65536%256:Nat):Int):=by omega
   rw[d,f,g,i]) 4 rfl (by decide),fun k j=>(by cases j;exact Nat.le_refl _),(Below.refl _ _).alloc (Nat.le_refl _) _⟩
 have c:=zh b;clear b
 go_enter func183,ntmps183
 go_wp2_with fail;go_ret;exact c.o
theorem rfromFour_calls {w:World}{b o n c:Nat}{d f g i:UInt8}(hn:4≤n)(s:w.cell? ⟨b,o,none⟩=some (.int .u8 (d.toNat:Int)))(t:w.cell? ⟨b,o+1,none⟩=some (.int .u8 (f.toNat:Int)))
  (v:w.cell? ⟨b,o+2,none⟩=some (.int .u8 (g.toNat:Int))) (y:w.cell? ⟨b,o+3,none⟩=some (.int .u8 (i.toNat:Int))) :
  Calls prog 197 #[.slice (some ⟨b,o,none⟩) n c] w (fun e w'=>e=.returned (.int .u32 (ofFour d f g i:Int))∧∃q,w'=w.drewN q):=by
 have k:=d.toNat_lt;have l:=f.toNat_lt;have m:=g.toNat_lt;have p:=i.toNat_lt;have z:(0:Int)<(n:Int):=by omega
 have a:(1:Int)<(n:Int):=by omega
 have h:(2:Int)<(n:Int):=by omega
 have A:(3:Int)<(n:Int):=by omega
 have hF:=or_four k l m p;have j:=zW (bits .or .u32 (bits .or .u32 (bits .or .u32 (d.toNat:Int) ((f.toNat:Int)*256)) ((g.toNat:Int)*65536)) ((i.toNat:Int)*16777216)=(ofFour d f g i:Int)) hF;clear hF;generalize ofFour d f g i=r at *;generalize d.toNat=B at *;generalize f.toNat=C at *;generalize g.toNat=D at *;generalize i.toNat=E at *
 go_enter func197,ntmps197
 go_wp2_with fail
 go_quiet (fail)
 go_wp2
 go_ret;exact⟨by rw[←j.o];rfl,_,rfl⟩
theorem rfour_at {w:World}{p:Option Addr}{n c:Nat}{b:Bs}(h:zAY w (.slice p n c) b)(j:4≤b.length) :
  Calls prog 197 #[.slice p n c] w (fun e w'=>e=.returned (.int .u32 (fourAt b:Int))∧∃q,w'=w.drewN q):=by
 have k:=h.at
 obtain⟨s,m,e⟩:=h.slice;cases e;rcases k with e|⟨g,o,r,e,f⟩
 ·rw[e]at j;simp at j
 ·cases e;have d:∀i,i<b.length→b[i]?=some (b.getD i 0):=fun i l=>by simp[List.getD,List.getElem?_eq_getElem l]
  exact rfromFour_calls j (by simpa using f 0 _ (d 0 (by omega))) (f 1 _ (d 1 (by omega))) (f 2 _ (d 2 (by omega))) (f 3 _ (d 3 (by omega)))
theorem ownB_keep {w w':World}{v:Value}{l:Bs}(h:zAj w 5 v l)(b:Below w.heap.size w w'):zAj w' 5 v l:=zAj.keep h fun k c=>b.block k (OwnR.lt h c)
theorem renc_calls {w:World}{p:Option Addr}{m c:Nat}{l:Bs}(hx:zAY w (.slice p m c) l)(hl:l.length≤1048576) :
  Calls prog 132 #[.slice p m c] w fun e w'=>∃v,e=.returned (.tuple #[v,.int .i64 0])∧zAj w' 5 v (zAK l)∧(∀k,v.ownBlock=some k→w.heap.size≤k)∧Below w.heap.size w w':=by
 have ae:m=l.length:=(zCc hx).1;have hm:m≤1048576:=by omega
 have Hx:=zh hx;have I:=zh ae;have aj:=zh (zFx (w:=w) m (by omega));obtain⟨i0,hi,V,X,Z⟩:=info_parts (show(prog.info? 5).map (fun i=>(i.zero,i.size,i.bytes))=some (some (.int .u8 0),1,1) by kernel_rfl);clear hx ae hl
 go_enter func132,ntmps132
 go_wp2_with fail;refine aj.o.mono ?_;rintro e w1 ⟨v1,rfl,M,af,ac⟩;obtain⟨p1,c1,rfl⟩:=OwnR.shape M;have A:=zh (And.intro M (And.intro af ac));have ao:=zh (zFZ (p:=p1) (m:=4) (c:=c1) M.has (by rw[show(zA4 m).length=4 from rfl];decide));rw[show(zA4 m).length=4 from rfl];clear M af ac;go_wp2_with fail;refine ao.o.mono ?_;rintro e w2 ⟨rfl,rfl⟩;rw[zDM];have ak:=zh (zFx (w:=w2) (sumN (zA4 m)) (zF1 _));have ad:zCG l.length=zA4 m++zA4 (sumN (zA4 m)):=by rw[←I.o];rfl
 have an:=zh ad;generalize sumN (zA4 m)=q at *;clear ad;go_wp2_with fail;refine ak.o.mono ?_;rintro e w3 ⟨v2,rfl,U,au,T⟩;obtain⟨p2,c2,rfl⟩:=OwnR.shape U;have X3:=zh (A.o.2.2.trans (T.mono A.o.2.2.size));have H:OwnR w3 5 1 (.slice p1 4 c1) 4 (zAQ (zA4 m)):=ownB_keep A.o.1 T;have Q:=zh H;have H2:=zW (zAM w3 1 (.slice p2 4 c2) 4 (zAQ (zA4 q))) U.has;have aq:=zW (∀W,Below w.heap.size w W→zAM W 1 (.slice p m c) m (zAQ l)) (fun W hb=>by
  have h:=Hx.o.below hb;unfold zAY at h;rw[←I.o]at h;exact h)
 rw[show(zA4 q).length=4 from rfl];clear U au T H;go_wp2_with (first|(at_builtin;refine zAP w3 rfl (.tmp 12) (.tmp 15) 22 rfl 5 i0 (.int .u8 0) 1 1 underlying22 hi V X Z rfl (by decide) (.slice p1 4 c1) 4 _ rfl Q.o (.slice p2 4 c2) 4 _ rfl H2.o (zAO _) (by decide) (by decide) ?_;intro aB aw f n y;have P:=X3.o.grown n X3.o.size (fun j e=>A.o.2.1 j e);have d:=zA2 (B:=w.heap.size) y A.o.2.1 X3.o.size;obtain⟨av,ar,rfl⟩:=OwnR.shape f;have t:=zh (And.intro P (And.intro f d));clear f n y P d)|(at_builtin;refine zAP aw rfl (.tmp 17) (.tmp 18) 22 rfl 5 i0 (.int .u8 0) 1 1 underlying22 hi V X Z rfl (by decide) (.slice av 8 ar) 8 _ rfl t.o.2.1 (.slice p m c) m _ rfl (aq.o _ t.o.1) (zAO _) (by unfold maxLen;omega) (by omega) ?_;intro aC ax b r z;have P:=t.o.1.grown r t.o.1.size (fun j e=>t.o.2.2 j e);have d:=zA2 (B:=w.heap.size) z t.o.2.2 t.o.1.size;obtain⟨N,L,rfl⟩:=OwnR.shape b;have C:=zh (And.intro P (And.intro b d));clear b r z P d))
 have F:zAj ax 5 (.slice N (8+m) L) (zCG l.length++l):=by
  unfold zAj;rw[an.o,zBs,zBs,List.length_append,List.length_append,show(zA4 m).length=4 from rfl,show(zA4 q).length=4 from rfl,←I.o];exact C.o.2.1
 have E:(zCG l.length++l).length=8+m:=by rw[List.length_append,zBH,←I.o]
 have ap:=zh (zFZ (p:=N) (m:=8+m) (c:=L) F.has (by rw[E];omega));have aa:=zh F;have O:=zh E;have am:=zW (zAK l=(zCG l.length++l)++zA4 (sumN (zCG l.length++l))) rfl;clear F E;generalize zCG l.length++l=Y at *;refine ap.o.mono ?_;rintro e ay ⟨rfl,rfl⟩;rw[zDM];have al:=zh (zFx (w:=ay) (sumN Y) (zF1 _));generalize sumN Y=q2 at *;go_wp2_with fail;refine al.o.mono ?_;rintro e K ⟨aD,rfl,G,ag,D⟩;obtain⟨ah,ab,rfl⟩:=OwnR.shape G;have R:=zh (C.o.1.trans (D.mono C.o.1.size));have b:OwnR K 5 1 (.slice N (8+m) L) (8+m) (zAQ Y):=by
  have h:=ownB_keep aa.o D;unfold zAj at h;rw[O.o]at h;exact h
 have J:=zh b;have ai:=zW (zAM K 1 (.slice ah 4 ab) 4 (zAQ (zA4 q2))) G.has;rw[show(zA4 q2).length=4 from rfl];clear G ag D b;go_wp2_with (at_builtin;refine zAP K rfl (.tmp 20) (.tmp 23) 22 rfl 5 i0 (.int .u8 0) 1 1 underlying22 hi V X Z rfl (by decide) (.slice N (8+m) L) (8+m) _ rfl J.o (.slice ah 4 ab) 4 _ rfl ai.o (zAO _) (by unfold maxLen;omega) (by omega) ?_;intro aE aF g s a;have P:=R.o.grown s R.o.size (fun j e=>C.o.2.2 j e);have d:=zA2 (B:=w.heap.size) a C.o.2.2 R.o.size;obtain⟨aA,az,rfl⟩:=OwnR.shape g;have S:=zh (And.intro P (And.intro g d));clear g s a P d)
 go_ret2
 refine⟨_,rfl,?_,S.o.2.2,S.o.1⟩;unfold zAj;rw[am.o,List.length_append,O.o,show(zA4 q2).length=4 from rfl,zBs];exact S.o.2.1
structure zCn (w W:World)(v:Value)(l:Bs):Prop where
 own:zAj W 5 v l
 new:∀k,v.ownBlock=some k→w.heap.size≤k
 bel:Below w.heap.size w W
theorem zCn.nil (w:World):zCn w w (.slice none 0 0) []:=⟨OwnR.nil _ _ _,fun k b=>(by cases b),Below.refl _ _⟩
theorem zCn.next {w W b:World}{v:Value}{l:Bs}(h:zCn w W v l)(c:Below W.heap.size W b):zCn w b v l:=⟨zCL h.own c,h.new,h.bel.trans (c.mono h.bel.size)⟩
theorem zCn.alloc {w W:World}{v:Value}{l:Bs}(h:zCn w W v l)(o:Obj):zCn w (W.alloc o) v l:=h.next (zAD W o)
theorem zCn.told {w W:World}{v:Value}{l:Bs}(h:zCn w W v l):zBd w l (.returned v) W:=⟨v,rfl,h.own,h.new,h.bel⟩
theorem zCn.grown {w d w3:World}{v v3:Value}{l x:Bs}(h:zCn w d v l)(c:OwnR w3 5 1 v3 (l.length+x.length) (zAQ l++zAQ x))(f:d.grownBy w3 v.ownBlock)(b:v3.ownBlock=v.ownBlock∨∃g,v3.ownBlock=some g∧d.heap.size≤g):zCn w w3 v3 (l++x):=by
 refine⟨?_,zA2 b h.new h.bel.size,h.bel.grown f h.bel.size fun j e=>h.new j e⟩
 show OwnR _ _ _ _ (l++x).length (zAQ (l++x))
 rw[List.length_append,show zAQ (l++x)=zAQ l++zAQ x from List.map_append];exact c
theorem or_high2 {a:Nat}(f:a≤4611686018427387904):bits .or .u8 (bits .and .u64 (a:Int) 127%256) 128=(((UInt8.ofNat (a%128+128)).toNat:Nat):Int):=by
 have b:bits .and .u64 (a:Int) 127=((a%128:Nat):Int):=by
  refine(u64_and_nat a 127 (by omega) (by decide)).trans ?_;rw[show(127:Nat)=2 ^ 7-1 from rfl,Nat.and_two_pow_sub_one_eq_mod]
 have c:∀y:Fin 256,(y.val ||| 128)=y.val%128+128:=by decide +kernel
 have d:(a%128 ||| 128)=a%128%128+128:=c ⟨a%128,by omega⟩;rw[b,show((a%128:Nat):Int)%256=((a%128:Nat):Int) by omega];refine(u8_or_nat (a%128) 128 (by omega) (by decide)).trans ?_;rw[d,UInt8.toNat_ofNat'];omega
theorem zEa (w:World)(z:Int)(hz:-9223372036854775808≤z∧z≤9223372036854775807) :
  Calls prog 118 #[.int .i64 z] w (zBd w (zDj z)):=by
 obtain⟨P,O,A,B,C⟩:=info_parts (show(prog.info? 5).map (fun i=>(i.zero,i.size,i.bytes))=some (some (.int .u8 0),1,1) by kernel_rfl);obtain⟨ab,ac⟩:=hz;have L:∀(K:Nat),(K=(max 0 (min z 4611686018427387904)).toNat)→K≤4611686018427387904:=fun K hK=>by omega
 have X:=zW (zDj z=zEB (max 0 (min z 4611686018427387904)).toNat) rfl;generalize Y:(max 0 (min z 4611686018427387904)).toNat=N at *;have H:N≤4611686018427387904:=L N rfl;have M:=zh Y;clear L Y
 go_enter func118,ntmps118
 by_cases h1:4611686018427387904<z
 ·have y:N=4611686018427387904:=by have:=M.o;omega
  have F:=zh y;clear y;go_wp2_with fail
  go_loopw [3,4] (fun u b wr=>∃(a:Nat) (cur:Bs) (G:Value),u=.int .u64 a∧G=b∧a≤4611686018427387904∧zCn w wr G cur∧cur++zEB a=zEB N) (fun u _ _=>(intOf u).toNat)
  case atStart=>exact⟨4611686018427387904,[],_,rfl,rfl,Nat.le_refl _,zCn.nil w,by rw[F.o];rfl⟩
  case round =>
   obtain⟨a,cur,G,rfl,rfl,Q,t,k⟩:=hrel;have h:=zAg H;rw[←k,List.length_append]at h;have S:=numB_len a;have s:=zh t;have p:=zh k;obtain⟨pv,cv,rfl,-⟩:=zAN t.own;clear t k;generalize I:cur.length=m at *;have E:=zh I;clear I;have q:=zh (show OwnR wr 5 1 (.slice pv m cv) m (zAQ cur) by have:=s.o.own;unfold zAj at this;rwa[E.o]at this)
   by_cases v:128≤a
   ·have r:=zh (zEC v);have T:=or_high2 Q;generalize UInt8.ofNat (a%128+128)=x at *;go_wp2_with (at_builtin;have j:=zC9 q.o (.cells #[.int .u8 (x.toNat:Int)] 5);have l:=zE6 wr x;refine zAP _ rfl (.tmp 13) (.tmp 18) 22 rfl 5 P (.int .u8 0) 1 1 underlying22 O A B C rfl (by decide) (.slice pv m cv) m _ rfl j (.slice (some ⟨wr.heap.size,0,none⟩) 1 1) 1 _ rfl l (zAO _) (by unfold maxLen;omega) (by omega) ?_;clear j l;intro v3 w3 c d f;go_loud (have D:=zh (zCn.grown (x:=[x]) (s.o.alloc (.cells #[.int .u8 (x.toNat:Int)] 5)) (by rw[E.o];exact c) d f);clear d f;obtain⟨V,W,rfl⟩:=OwnR.shape c;clear c))
    go_roundw
    case rel=>exact⟨a/128,cur++[x],_,by first|rfl|go_num,rfl,by omega,D.o,by rw[←p.o,r.o];simp⟩
    case measure=>simp[intOf];omega
   ·have g:=zh (zCu (n:=a) (by omega));obtain⟨x,J⟩:∃x:UInt8,a=x.toNat:=⟨UInt8.ofNat a,by rw[UInt8.toNat_ofNat'];omega⟩;rw[show UInt8.ofNat a=x by rw[J];simp]at g;subst J;have U:(x.toNat:Int)%256=(x.toNat:Int):=by omega
    have R:=x.toNat_lt;go_wp2_with (at_builtin;have j:=zC9 q.o (.cells #[.int .u8 (x.toNat:Int)] 5);have l:=zE6 wr x;refine zAP _ rfl (.tmp 22) (.tmp 25) 22 rfl 5 P (.int .u8 0) 1 1 underlying22 O A B C rfl (by decide) (.slice pv m cv) m _ rfl j (.slice (some ⟨wr.heap.size,0,none⟩) 1 1) 1 _ rfl l (zAO _) (by unfold maxLen;omega) (by omega) ?_;clear j l;intro v3 w3 c d f;go_loud (have D:=zh (zCn.grown (x:=[x]) (s.o.alloc (.cells #[.int .u8 (x.toNat:Int)] 5)) (by rw[E.o];exact c) d f);clear d f;obtain⟨V,W,rfl⟩:=OwnR.shape c;clear c))
    go_ret;have:=D.o.told;rw[X.o,←p.o,g.o];exact this
 ·by_cases h2:0<z
  ·have aa:IntKind.u64.wrap z=z:=by rw[show IntKind.u64.wrap z=z%18446744073709551616 from rfl];omega
   have Z:z%18446744073709551616=z:=by omega
   have y:z=(N:Int):=by have:=M.o;omega
   have F:=zh y;clear y;go_wp2_with fail
   go_loopw [3,4] (fun u b wr=>∃(a:Nat) (cur:Bs) (G:Value),u=.int .u64 a∧G=b∧a≤4611686018427387904∧zCn w wr G cur∧cur++zEB a=zEB N) (fun u _ _=>(intOf u).toNat)
   case atStart=>exact⟨N,[],_,by rw[F.o],rfl,H,zCn.nil w,rfl⟩
   case round =>
    obtain⟨a,cur,G,rfl,rfl,Q,t,k⟩:=hrel;have h:=zAg H;rw[←k,List.length_append]at h;have S:=numB_len a;have s:=zh t;have p:=zh k;obtain⟨pv,cv,rfl,-⟩:=zAN t.own;clear t k;generalize I:cur.length=m at *;have E:=zh I;clear I;have q:=zh (show OwnR wr 5 1 (.slice pv m cv) m (zAQ cur) by have:=s.o.own;unfold zAj at this;rwa[E.o]at this)
    by_cases v:128≤a
    ·have r:=zh (zEC v);have T:=or_high2 Q;generalize UInt8.ofNat (a%128+128)=x at *;go_wp2_with (at_builtin;have j:=zC9 q.o (.cells #[.int .u8 (x.toNat:Int)] 5);have l:=zE6 wr x;refine zAP _ rfl (.tmp 13) (.tmp 18) 22 rfl 5 P (.int .u8 0) 1 1 underlying22 O A B C rfl (by decide) (.slice pv m cv) m _ rfl j (.slice (some ⟨wr.heap.size,0,none⟩) 1 1) 1 _ rfl l (zAO _) (by unfold maxLen;omega) (by omega) ?_;clear j l;intro v3 w3 c d f;go_loud (have D:=zh (zCn.grown (x:=[x]) (s.o.alloc (.cells #[.int .u8 (x.toNat:Int)] 5)) (by rw[E.o];exact c) d f);clear d f;obtain⟨V,W,rfl⟩:=OwnR.shape c;clear c))
     go_roundw
     case rel=>exact⟨a/128,cur++[x],_,by first|rfl|go_num,rfl,by omega,D.o,by rw[←p.o,r.o];simp⟩
     case measure=>simp[intOf];omega
    ·have g:=zh (zCu (n:=a) (by omega));obtain⟨x,J⟩:∃x:UInt8,a=x.toNat:=⟨UInt8.ofNat a,by rw[UInt8.toNat_ofNat'];omega⟩;rw[show UInt8.ofNat a=x by rw[J];simp]at g;subst J;have U:(x.toNat:Int)%256=(x.toNat:Int):=by omega
     have R:=x.toNat_lt;go_wp2_with (at_builtin;have j:=zC9 q.o (.cells #[.int .u8 (x.toNat:Int)] 5);have l:=zE6 wr x;refine zAP _ rfl (.tmp 22) (.tmp 25) 22 rfl 5 P (.int .u8 0) 1 1 underlying22 O A B C rfl (by decide) (.slice pv m cv) m _ rfl j (.slice (some ⟨wr.heap.size,0,none⟩) 1 1) 1 _ rfl l (zAO _) (by unfold maxLen;omega) (by omega) ?_;clear j l;intro v3 w3 c d f;go_loud (have D:=zh (zCn.grown (x:=[x]) (s.o.alloc (.cells #[.int .u8 (x.toNat:Int)] 5)) (by rw[E.o];exact c) d f);clear d f;obtain⟨V,W,rfl⟩:=OwnR.shape c;clear c))
     go_ret;have:=D.o.told;rw[X.o,←p.o,g.o];exact this
  ·have y:N=0:=by have:=M.o;omega
   have F:=zh y;clear y;go_wp2_with fail
   go_loopw [3,4] (fun u b wr=>∃(a:Nat) (cur:Bs) (G:Value),u=.int .u64 a∧G=b∧a≤4611686018427387904∧zCn w wr G cur∧cur++zEB a=zEB N) (fun u _ _=>(intOf u).toNat)
   case atStart=>exact⟨0,[],_,rfl,rfl,by decide,zCn.nil w,by rw[F.o];rfl⟩
   case round =>
    obtain⟨a,cur,G,rfl,rfl,Q,t,k⟩:=hrel;have h:=zAg H;rw[←k,List.length_append]at h;have S:=numB_len a;have s:=zh t;have p:=zh k;obtain⟨pv,cv,rfl,-⟩:=zAN t.own;clear t k;generalize I:cur.length=m at *;have E:=zh I;clear I;have q:=zh (show OwnR wr 5 1 (.slice pv m cv) m (zAQ cur) by have:=s.o.own;unfold zAj at this;rwa[E.o]at this)
    by_cases v:128≤a
    ·have r:=zh (zEC v);have T:=or_high2 Q;generalize UInt8.ofNat (a%128+128)=x at *;go_wp2_with (at_builtin;have j:=zC9 q.o (.cells #[.int .u8 (x.toNat:Int)] 5);have l:=zE6 wr x;refine zAP _ rfl (.tmp 13) (.tmp 18) 22 rfl 5 P (.int .u8 0) 1 1 underlying22 O A B C rfl (by decide) (.slice pv m cv) m _ rfl j (.slice (some ⟨wr.heap.size,0,none⟩) 1 1) 1 _ rfl l (zAO _) (by unfold maxLen;omega) (by omega) ?_;clear j l;intro v3 w3 c d f;go_loud (have D:=zh (zCn.grown (x:=[x]) (s.o.alloc (.cells #[.int .u8 (x.toNat:Int)] 5)) (by rw[E.o];exact c) d f);clear d f;obtain⟨V,W,rfl⟩:=OwnR.shape c;clear c))
     go_roundw
     case rel=>exact⟨a/128,cur++[x],_,by first|rfl|go_num,rfl,by omega,D.o,by rw[←p.o,r.o];simp⟩
     case measure=>simp[intOf];omega
    ·have g:=zh (zCu (n:=a) (by omega));obtain⟨x,J⟩:∃x:UInt8,a=x.toNat:=⟨UInt8.ofNat a,by rw[UInt8.toNat_ofNat'];omega⟩;rw[show UInt8.ofNat a=x by rw[J];simp]at g;subst J;have U:(x.toNat:Int)%256=(x.toNat:Int):=by omega
     have R:=x.toNat_lt;go_wp2_with (at_builtin;have j:=zC9 q.o (.cells #[.int .u8 (x.toNat:Int)] 5);have l:=zE6 wr x;refine zAP _ rfl (.tmp 22) (.tmp 25) 22 rfl 5 P (.int .u8 0) 1 1 underlying22 O A B C rfl (by decide) (.slice pv m cv) m _ rfl j (.slice (some ⟨wr.heap.size,0,none⟩) 1 1) 1 _ rfl l (zAO _) (by unfold maxLen;omega) (by omega) ?_;clear j l;intro v3 w3 c d f;go_loud (have D:=zh (zCn.grown (x:=[x]) (s.o.alloc (.cells #[.int .u8 (x.toNat:Int)] 5)) (by rw[E.o];exact c) d f);clear d f;obtain⟨V,W,rfl⟩:=OwnR.shape c;clear c))
     go_ret;have:=D.o.told;rw[X.o,←p.o,g.o];exact this
theorem zB4 {w:World}{p:Option Addr}{n c:Nat}{zs:List Int}(J:zBe w (.slice p n c) zs)(V:∀z∈zs,-9223372036854775808≤z∧z≤9223372036854775807)(hl:zs.length≤1099511627776) :
  Calls prog 172 #[.slice p n c] w (zBd w (zAp zs)):=by
 obtain⟨i0,K,M,N,O⟩:=info_parts (show(prog.info? 5).map (fun i=>(i.zero,i.size,i.bytes))=some (some (.int .u8 0),1,1) by kernel_rfl);have hn:zs.length=n:=by obtain⟨_,_,e⟩:=J.slice;simp only[Value.slice.injEq]at e;exact e.2.1.symm
 have A:=zh hn;have X:=zh J;have Y:=zh V;have U:n≤1099511627776:=by omega
 clear J V hl hn
 go_enter func172,ntmps172
 go_wp2_with fail
 go_loopw [3,4] (fun b i wr=>∃(k:Nat) (H:Value),k≤n∧i=.int .i64 k∧H=b∧zCn w wr H (zAp (zs.take k))) (fun _ i _=>n-(intOf i).toNat)
 case atStart=>exact⟨0,_,Nat.zero_le _,rfl,rfl,by rw[List.take_zero];exact zCn.nil w⟩
 case round =>
  obtain⟨k,H,hk,rfl,rfl,f⟩:=hrel
  by_cases I:k<n
  ·have j:k<zs.length:=by rw[A.o];exact I
   rcases(show zBe wr (.slice p n c) zs from zAM.chg X.o (Chg.of_below f.bel) fun _ _=>id).at with h0|⟨b,o,c2,e2,hcell⟩
   ·rw[h0]at j;simp at j
   rw[A.o]at e2;simp only[Value.slice.injEq]at e2;obtain⟨rfl,-,rfl⟩:=e2;have Z:=hcell k _ (List.getElem?_eq_getElem j);have a:=Y.o _ (List.getElem_mem j);have F:=zh (numsI_take j);generalize zs[k]=z at *;have s:=zh (zEa wr z a);have E:=zh f;obtain⟨pv,cv,rfl,-⟩:=zAN f.own;have S:=zA9 (zs.take k);have aa:=zBI z;have T:(zs.take k).length≤n:=by rw[List.length_take,A.o];omega
   clear hcell f j a;go_wp2_with fail;refine s.o.mono ?_;rintro e w2 ⟨x,rfl,q,L,y⟩;have r:=zh (E.o.next y);have D:=zh (zAj.has q);obtain⟨W,P,rfl,-⟩:=zAN q;clear q L y;generalize Q:(zAp (zs.take k)).length=m at *;generalize v:(zDj z).length=B at *;have h:=zh (And.intro Q v);have t:=zh (show OwnR w2 5 1 (.slice pv m cv) m (zAQ (zAp (zs.take k))) by have:=r.o.own;unfold zAj at this;rwa[h.o.1]at this);have G:=zh (show zAM w2 1 (.slice W B P) B (zAQ (zDj z)) by have:=D.o;unfold zAY at this;rwa[h.o.2]at this);clear Q v;go_wp2_with (at_builtin;refine zAP _ rfl (.tmp 11) (.tmp 16) 22 rfl 5 i0 (.int .u8 0) 1 1 underlying22 K M N O rfl (by decide) (.slice pv m cv) m _ rfl t.o (.slice W B P) B _ rfl G.o (zAO _) (by unfold maxLen;omega) (by omega) ?_;intro v3 w3 d g l;go_loud (have C:=zh (zCn.grown (x:=zDj z) r.o (by rw[h.o.1,h.o.2];exact d) g l);clear g l;obtain⟨p3,q3,rfl⟩:=OwnR.shape d;clear d))
   go_roundw
   case rel=>exact⟨k+1,_,by omega,by go_num,rfl,by rw[F.o];exact C.o⟩
   case measure=>simp[intOf];omega
  ·have R:zs.take k=zs:=List.take_of_length_le (by rw[A.o];omega);rw[R]at f;have C:=zh f.told;clear f R;go_wp2_with fail;go_ret;exact C.o
theorem zBo {w:World}{p:Option Addr}{m c:Nat}{l:Bs}(g:zAY w (.slice p m c) l)(d:l.length≤1048576) :
  Calls prog 117 #[.slice p m c] w (zBd w (zAK l)):=by
 have H:=zh (renc_calls g d);clear g d
 go_enter func117,ntmps117
 go_wp2_with fail;refine H.o.mono ?_;rintro e w1 ⟨v,rfl,f,hn,b⟩;have i:=zW (zBd w (zAK l) (.returned v) w1) (⟨v,rfl,f,hn,b⟩);clear f hn b;go_wp2_with fail;go_ret;exact i.o
theorem rowB_lit (w:World)(x:UInt8):zCn w (w.alloc (.cells #[.int .u8 (x.toNat:Int)] 5)) (.slice (some ⟨w.heap.size,0,none⟩) 1 1) [x] :=
 ⟨own_lit #[.int .u8 (x.toNat:Int)] [x] 5 rfl 1 rfl (by decide),fun k b=>by cases b;exact Nat.le_refl _,zAD w _⟩
theorem rterms_calls (w:World)(t v:Int)(ht:-9223372036854775808≤t∧t≤9223372036854775807)(hv:-9223372036854775808≤v∧v≤1099511627776) :
  Calls prog 116 #[.int .i64 t,.int .i64 v] w (zBd w (zAK (zCW t v))):=by
 obtain⟨K,W,N,O,P⟩:=info_parts (show(prog.info? 5).map (fun i=>(i.zero,i.size,i.bytes))=some (some (.int .u8 0),1,1) by kernel_rfl);have hw:IntKind.i64.wrap (v+1)=v+1:=IntWalk.i64_in _ (by omega);have r:=zh (rowB_lit w 2);have Q:=zW ([2]++zAp [t,v+1]=zCW t v) (by simp[zAp,zCW]);have g:=zA9 [t,v+1];have V:=zh g;have Y:(zAp [t,v+1]).length≤18:=by simpa using g
 have s:=zh (zB4 (w:=(w.alloc (.cells #[.int .u8 2] 5)).alloc (.cells #[.int .i64 t,.int .i64 (v+1)] 3)) (p:=some ⟨w.heap.size+1,0,none⟩) (n:=2) (c:=2) (zs:=[t,v+1]) ⟨by simp,some ⟨w.heap.size+1,0,none⟩,2,rfl,fun e=>(by cases e),fun a L i u Z=>by
  cases L;rw[add_zero];refine zAG (by have:=zAI (w.alloc (.cells #[.int .u8 2] 5)) (.cells #[.int .i64 t,.int .i64 (v+1)] 3);simpa using this) ?_;simpa using Z⟩ (by simp;omega) (by simp))
 clear g
 go_enter func116,ntmps116
 go_wp2_with fail;refine s.o.mono ?_;rintro e w2 ⟨x,rfl,j,M,B⟩;have q:=zh ((r.o.alloc (.cells #[.int .i64 t,.int .i64 (v+1)] 3)).next B);have H:=zh (zAj.has j);obtain⟨T,R,rfl,-⟩:=zAN j;clear j M B;generalize A:(zAp [t,v+1]).length=E at *;have G:=zh A;have h:=zW (OwnR w2 5 1 (.slice (some ⟨w.heap.size,0,none⟩) 1 1) 1 (zAQ [2])) q.o.own;have I:=zh (show zAM w2 1 (.slice T E R) E (zAQ (zAp [t,v+1])) by have:=H.o;unfold zAY at this;rwa[G.o]at this);clear A;go_wp2_with (at_builtin;refine zAP _ rfl (.tmp 5) (.tmp 10) 22 rfl 5 K (.int .u8 0) 1 1 underlying22 W N O P rfl (by decide) (.slice (some ⟨w.heap.size,0,none⟩) 1 1) 1 _ rfl h.o (.slice T E R) E _ rfl I.o (zAO _) (by unfold maxLen;omega) (by omega) ?_;intro v3 w3 b d f;go_loud (have J:=zCn.grown (x:=zAp [t,v+1]) q.o (by rw[G.o];exact b) d f;rw[Q.o]at J;have F:=zh J;have Hr:=zh (zBo (p:=none) (m:=0) (c:=0) (w:=w3) (l:=[]) ⟨rfl,none,0,rfl,fun _=>rfl,fun a L=>by cases L⟩ (by decide));clear d f J;obtain⟨p3,q3,rfl⟩:=OwnR.shape b;clear b))
 have z:=zh (zBo (p:=p3) (m:=1+E) (c:=q3) (l:=zCW t v) (w:=w3) F.o.own.has (by rw[←Q.o,List.length_append,G.o];simp;omega));refine z.o.mono ?_;rintro e w4 ⟨y,rfl,S,D,C⟩;have U:=zW (zBd w (zAK (zCW t v)) (.returned y) w4) (⟨y,rfl,S,fun k X=>Nat.le_trans F.o.bel.size (D k X),F.o.bel.trans (C.mono F.o.bel.size)⟩);clear S D C;go_wp2_with fail;go_ret;exact U.o
def b12':Bs:=[49,50]
def b3':Bs:=[51]
def b123:Bs:=[49,50,51]
def Q0:zAA:=zAA.fresh 1000
def Q1:zAA:=⟨1000,[([97],⟨zAK b123,(zAK b123).length⟩)],none⟩
theorem q1:Q0.save (nm sA) [b12',b3'].flatten=(Q1,0) :=
 save_all (D:=Q0) (n:=[97]) (l:=b123) (ok_fresh 1000 (by decide)) (fun j h=>by cases h) (by decide) (by decide) rfl (by decide) (by decide)
theorem q2 (k:Int):Sat.get (nm sA) (Q1.crash k).files=some ⟨zAK b123,(zAK b123).length⟩:=get_crash_whole (D:=Q1) (n:=[97]) rfl k
def fl (x:Bs):zAT:=⟨zAK x,(zAK x).length⟩
theorem each_one (g:Bs→zAT→List (Bs×zAT)→List (Bs×zAT))(D:zAA)(n:Bs):D.each g [n]=D.each1 g n:=by
 cases h:D.each1 g n with
 | mk D1 e1 =>
  unfold zAA.each;rw[h]
  by_cases b:e1=0
  ·subst b;rw[if_pos rfl];rfl
  ·rw[if_neg b]
section
variable {a b c:Bs}
end
end Go.Proofs.YtapfnehdgailmaaGreat
namespace Go.Sat
open Go.RowKit
theorem OwnR.set {w:World}{e:TypeId}{size:Nat}{v:Value}{n:Nat}{xs:List Value}(h:OwnR w e size v n xs){g:Nat}(k:v.ownBlock=some g)(j:Nat)(u:Value):OwnR (w.setCell ⟨g,j,none⟩ u) e size v n (xs.set j u):=by
 refine⟨by rw[List.length_set];exact h.1,?_⟩;rcases h.2 with⟨rfl,_⟩|⟨l,b,cur,rfl,f,i,c,d,m⟩
 ·cases k
 ·cases k;refine .inr ⟨l,b,cur.setIfInBounds j u,rfl,zAC f j u,i,c,by simpa using d,?_⟩;rw[←m,Array.toList_setIfInBounds,List.take_set]
end Go.Sat
namespace Go.Proofs.YtapfnehdgailmaaGreat
open Go.RowKit Go.Sat Go.Maps
theorem cells_set (L:List zAR)(i:Nat)(x b:zAR)(h:L[i]?=some x)(j:Nat)(d:j<3)(u:Value)(c:b.cells=x.cells.set j u):(L.flatMap zAR.cells).set (i*3+j) u=(L.set i b).flatMap zAR.cells:=by
 induction L generalizing i with
 | nil=>simp at h
 | cons y r ih =>
  have f:y.cells.length=3:=rfl;rw[List.flatMap_cons];cases i with
  | zero =>
   simp at h;subst h;rw[List.set_cons_zero,List.flatMap_cons,c,List.set_append_left _ _ (by omega),Nat.zero_mul,Nat.zero_add]
  | succ i =>
   rw[List.set_cons_succ,List.flatMap_cons,List.set_append_right _ _ (by omega),←ih i (by simpa using h)]
   congr 2
   omega
structure zAz (w:World)(r:Nat)(v:Value)(L:List zAR)(own:Nat→Prop)(room:Nat)(fuse:Option Nat):Prop where
 cells:w.heap[r]?=some (.cells #[.int .i64 (room:Int),v,.int .i64 (zFg fuse)] 118 (0,0))
 row:OwnR w 127 3 v L.length (L.flatMap zAR.cells)
 data:∀x∈L,zAj w 5 x.b x.f.data
 or:own r
 ov:∀k,v.ownBlock=some k→own k∧k≠r
 ob:∀x∈L,∀k,x.b.ownBlock=some k→own k∧k≠r∧v.ownBlock≠some k
 olt:∀k,own k→k<w.heap.size
section
variable {w:World} {r:Nat} {v:Value} {L:List zAR} {own:Nat→Prop} {D:zAA} {room:Nat} {fuse:Option Nat}
theorem zAc.core (h:zAc w r v L own D):zAz w r v L own D.room D.fuse:=⟨h.cells,h.row,h.data,h.or,h.ov,h.ob,h.olt⟩
theorem zAz.full (h:zAz w r v L own room fuse)(d:D.room=room)(c:D.fuse=fuse)(b:D.files=L.map zAR.key)(f:D.OK):zAc w r v L own D:=by
 subst d;subst c;exact⟨h.cells,h.row,b,h.data,h.or,h.ov,h.ob,h.olt,f⟩
theorem zAz.at (h:zAz w r v L own room fuse){g:Nat}(j:v.ownBlock=some g){i:Nat}{x:zAR}(d:L[i]?=some x):w.cell? ⟨g,i*3,none⟩=some (encStr x.n)∧w.cell? ⟨g,i*3+1,none⟩=some x.b∧w.cell? ⟨g,i*3+2,none⟩=some (.int .i64 (x.f.lasts:Int)):=by
 have c:=h.row.cells j;refine⟨?_,?_,?_⟩
 ·have:=c (i*3+0) (encStr x.n) ((zFL L i x d 0 (by omega)).trans rfl);rwa[add_zero]at this
 ·have:=c (i*3+1) x.b ((zFL L i x d 1 (by omega)).trans rfl);rwa[add_zero]at this
 ·have:=c (i*3+2) _ ((zFL L i x d 2 (by omega)).trans rfl);rwa[add_zero]at this
theorem mem_set {α:Type}{L:List α}{i:Nat}{b y:α}(h:y∈L.set i b):y∈L∨y=b:=List.mem_or_eq_of_mem_set h
theorem zAz.store (h:zAz w r v L own room fuse){g:Nat}(p:v.ownBlock=some g){i:Nat}{x:zAR}(z:L[i]?=some x)(j:Nat)(t:j<3)(u:Value)(m:zAR)(q:m.cells=x.cells.set j u)
  {own':Nat→Prop} (d:∀k,own k→own' k) (s:zAj w 5 m.b m.f.data) (o:∀k,m.b.ownBlock=some k→own' k∧k≠r∧k≠g) (n:∀k,own' k→k<w.heap.size) :
  zAz (w.setCell ⟨g,i*3+j,none⟩ u) r v (L.set i m) own' room fuse where
 cells:=(set_other u (h.ov g p).2.symm).trans h.cells
 row:=by
  rw[List.length_set,←cells_set L i x m z j t u q];exact h.row.set p _ _
 data:=fun y l=>by
  rcases mem_set l with l|rfl
  ·exact OwnR.keep (h.data y l) fun k c=>set_other u (fun e=>(h.ob y l k c).2.2 (by rw[p];exact congrArg some e.symm))
  ·exact OwnR.keep s fun k c=>set_other u (o k c).2.2
 or:=d r h.or
 ov:=fun k c=>⟨d k (h.ov k c).1,(h.ov k c).2⟩
 ob:=fun y l k c=>by
  rcases mem_set l with l|rfl
  ·exact⟨d k (h.ob y l k c).1,(h.ob y l k c).2⟩
  ·exact⟨(o k c).1,(o k c).2.1,fun e=>(o k c).2.2 (Option.some.inj (e.symm.trans p))⟩
 olt:=fun k c=>by
  have:=n k c;simpa[World.setCell]using this
theorem zAz.free (h:zAz w r v L own room fuse){g:Nat}(c:v.ownBlock=some g)(j:Nat):w.frozen? ⟨g,j,none⟩=false:=by
 rcases h.row.2 with⟨rfl,_⟩|⟨f,d,cur,rfl,b,_⟩
 ·cases c
 ·cases c;exact zAE b j
def zCo (w:World)(r:Nat)(own:Nat→Prop)(R:zAA×Nat)(e:Ending)(w':World):Prop :=
 e=.returned (.int .i64 (R.2:Int))∧∃own',RefAt w' r R.1 own'∧Chg own w w'∧∀k,own' k→own k∨w.heap.size≤k
theorem zAc.below (h:zAc w r v L own D){w':World}(b:Below w.heap.size w w'):zAc w' r v L own D:=h.keep b.size fun k c=>b.block k (h.olt k c)
theorem zCd {w' b:World}(c:Below w.heap.size w w')(d:Chg own w' b):Chg own w b :=
 ((Chg.of_below c).mono fun _ _ h=>h.elim).trans d fun _ _ h=>h
theorem zBV (h:zAc w r v L own D){w':World}(b:Below w.heap.size w w')(k:Nat):zCo w r own (D,k) (.returned (.int .i64 (k:Int))) w' :=
 ⟨rfl,own,⟨v,L,h.below b⟩,(Chg.of_below b).mono fun _ _ h=>h.elim,fun _ h=>.inl h⟩
theorem zAt (w:World)(o:Obj)(q:Nat):Below w.heap.size w ((w.alloc o).drewN q):=((Below.refl _ _).alloc (Nat.le_refl _) o).trans ⟨rfl,rfl,rfl,Nat.le_refl _,fun _ _=>rfl⟩
theorem zFW {ns:List Bs}(h:D.may ns=0):D.fuse≠some 0:=fun e=>by
 unfold zAA.may at h;rw[if_pos e]at h;cases h
theorem zDf {c:zAA}{v':Value}{L':List zAR}{own':Nat→Prop}{w1 w2:World}{e:Ending}(i:Chg own w w1)(d:∀k,own' k→own k∨w.heap.size≤k)(_ho:w.heap.size≤w1.heap.size)
  (h:e=.returned (.int .i64 0)∧zAc w2 r v' L' own' c.done∧Chg own' w1 w2):zCo w r own (c.done,0) e w2:=by
 obtain⟨rfl,f,b⟩:=h;refine⟨rfl,own',⟨v',L',f⟩,i.trans b fun k j g=>?_,d⟩;rcases d k g with h|h
 ·exact h
 ·omega
theorem map_set_key (L:List zAR)(i:Nat)(x:zAR):(L.set i x).map zAR.key=(L.map zAR.key).set i x.key:=List.map_set ..
theorem zAc.put (h:zAc w r v L own D){n:Bs}{f:zAT}(d:Sat.get n D.files=some f)(b:zAR)(hn:b.n=n):put n b.f D.files=(L.set (zA6 n (L.map zAR.n)) b).map zAR.key:=by
 have c:isAt n (D.files.map (·.1))=true:=by rw[(zGg n h.ok.srt).1,d];rfl
 rw[put_at n b.f h.ok.srt c,map_set_key,←h.files,h.names];unfold zAR.key;rw[hn]
theorem zDg (h:zAc w r v L own D)(s:ByteArray)(hs:s.size≤9223372036854775807) :
  Calls prog 91 #[.pointer (some ⟨r,0,none⟩),.string s] w (zCo w r own (D.sync [nm s])):=by
 have R:zAc (w.alloc (.cells #[.string s] 9)) r v L own D:=h.below ((Below.refl _ _).alloc (Nat.le_refl _) _);have c:=zCY R (some ⟨w.heap.size,0,none⟩) [s] 1 (zBa w s) (by simp) (by simpa using hs);simp only[List.map_cons,List.map_nil]at c;unfold zAA.sync;rw[each_one]
 by_cases M:D.may [nm s]=0
 ·have p:=zBt R s;rw[h.is]at p;rw[M]at c;cases a:Sat.get (nm s) D.files with
  | none =>
   rw[a]at p;have G:zAA.each1 zAA.gSync D (nm s)=(D,7):=by unfold zAA.each1;rw[if_neg (by rw[M];simp),a]
   rw[G];have U:=zh (fun q=>zBV h (zAt w (.cells #[.string s] 9) q) 7);have j:=zh c;have J:=zh p;clear h R c p M G a
   go_enter func91,ntmps91
   go_wp2_with fail;refine j.o.mono ?_;rintro e w2 ⟨rfl,rfl⟩;go_wp2_with fail;refine J.o.mono ?_;rintro e w3 ⟨rfl,q,rfl⟩;go_wp2_with fail;go_ret;exact U.o q
  | some f =>
   rw[a]at p;obtain⟨x,N,aa,rfl⟩:=h.hit a;have ac:=h.len_le N;have I:=h.put a ⟨x.n,x.b,⟨x.f.data,x.f.data.length⟩⟩ aa;have t:=List.mem_of_getElem? N;have hN:zA6 (nm s) (L.map zAR.n)<L.length:=(List.getElem?_eq_some_iff.1 N).1;have G:zAA.each1 zAA.gSync D (nm s)=(zAA.done {D with files:=zAA.gSync (nm s) x.f D.files},0):=by unfold zAA.each1;rw[if_neg (by rw[M];simp),a]
   rw[G];have T:=ok_sync h.ok a;generalize zA6 (nm s) (L.map zAR.n)=i at *;have F:∀W g,Below w.heap.size w W→v.ownBlock=some g→zAc (W.setCell ⟨g,i*3+2,none⟩ (.int .i64 (x.f.data.length:Int))) r v (L.set i ⟨x.n,x.b,⟨x.f.data,x.f.data.length⟩⟩) own {D with files:=zAA.gSync (nm s) x.f D.files}:=fun W g d A=>by
    have H:=(h.below d).core;exact(H.store A N 2 (by omega) _ ⟨x.n,x.b,⟨x.f.data,x.f.data.length⟩⟩ rfl (fun _ h=>h) (H.data x t) (fun k K=>⟨(h.ob x t k K).1,(h.ob x t k K).2.1,fun e=>(h.ob x t k K).2.2 (by rw[A,e])⟩) H.olt).full rfl rfl I T
   have S:∀W g,Below w.heap.size w W→v.ownBlock=some g→Chg own w (W.setCell ⟨g,i*3+2,none⟩ (.int .i64 (x.f.data.length:Int))):=fun W g d A=>zCd d (zDq (h.ov g A).1);rcases h.at with h0|⟨g,c0,rfl,ab,-⟩
   ·rw[h0]at hN;simp at hN
   have E:=fun W d=>zCy (F W g d rfl) (zFW M);have C:=fun W d=>S W g d rfl;have l:∀W,Below w.heap.size w W→(W.cell? ⟨r,1,none⟩=some (.slice (some ⟨g,0,none⟩) L.length c0)∧W.cell? ⟨g,i*3+1,none⟩=some x.b∧W.cell? ⟨g,i*3+2,none⟩=some (.int .i64 (x.f.lasts:Int))∧W.frozen? ⟨g,i*3+2,none⟩=false):=fun W d=>by
    have H:=h.below d;exact⟨H.c1,(H.core.at rfl N).2.1,(H.core.at rfl N).2.2,H.core.free rfl _⟩
   obtain⟨pb,cb,eb⟩:=zAY.slice (h.data x t).has;rw[eb]at l;generalize x.f.data.length=m at *;have B:=zh (And.intro E C);have y:=zh l;have j:=zh c;have J:=zh p;clear h R c p M G a I T F S E C l N t eb
   go_enter func91,ntmps91
   go_wp2_with fail;refine j.o.mono ?_;rintro e w2 ⟨rfl,rfl⟩;go_wp2_with fail;refine J.o.mono ?_;rintro e w3 ⟨rfl,q,rfl⟩;have O:=zh (zAt w (.cells #[.string s] 9) q);generalize (w.alloc (.cells #[.string s] 9)).drewN q=W at *;obtain⟨V,X,Y,Z⟩:=y.o W O.o;go_wp2_with fail
   go_still_tail 14,(by kernel_rfl)
   change wpList _ _ _ _ _ W.drew;have z:Below w.heap.size w W.drew:=O.o.trans ⟨rfl,rfl,rfl,Nat.le_refl _,fun _ _=>rfl⟩;obtain⟨V,X,Y,Z⟩:=y.o _ z;have Q:=zh (B.o.1 _ z);have P:=zh (B.o.2 _ z);clear z;generalize W.drew=Wd at *;go_wp2_with fail;refine Q.o.mono ?_;intro e w4 h4;have hE:=zDf P.o (fun _ h=>.inl h) P.o.size h4;obtain⟨rfl,-⟩:=h4;have HE:=zh hE;clear hE;go_wp2_with fail;go_ret;exact HE.o
 ·have G:zAA.each1 zAA.gSync D (nm s)=(D,D.may [nm s]):=by unfold zAA.each1;rw[if_pos M]
  rw[G];have U:=zh (zBV h ((Below.refl _ _).alloc (Nat.le_refl _) (.cells #[.string s] 9)) (D.may [nm s]));have j:=zh c;generalize D.may [nm s]=m at *;have ad:((m:Int) != 0)=true:=by simp;omega
  clear h R c G
  go_enter func91,ntmps91
  go_wp2_with fail;refine j.o.mono ?_;rintro e w2 ⟨rfl,rfl⟩;go_wp2_with fail;go_ret;exact U.o
end
end Go.Proofs.YtapfnehdgailmaaGreat
namespace Go.Sat
open Go Go.RowKit
theorem zCw {P:Program}{l:List Oper}{Q:Exit→Act→World→Prop}{d:Region.Mode}{S:World→Prop}{c:Nat}{b:Array Bool}{a:Act}{w:World}(i j:Nat){o p:Oper}{t v:List Oper}(g:l.drop i=o::t)(k:l.drop j=p::v)(s:Region.ready d l.toArray b=[i,j])
  (m:Region.wanted o (yielded l.toArray a.tmps)=true) (n:Region.wanted p (yielded l.toArray a.tmps)=true)
  (q:∀K:Act→World→Prop,Shut (∀a w,S w→(S w→wpAnyH P d l.toArray Q S c (b.setIfInBounds i true) a w)→K a w)→Oper.wp P o a w K Q)
  (r:∀K:Act→World→Prop,Shut (∀a w,S w→(S w→wpAnyH P d l.toArray Q S c (b.setIfInBounds j true) a w)→K a w)→Oper.wp P p a w K Q):wpAnyH P d l.toArray Q S (c+1) b a w :=
 wpAnyH_ready s (by simp) (AllReadyH.cons (zBv g) (fun K f=>by rw[if_pos m];exact q K f) (AllReadyH.cons (zBv k) (fun K f=>by rw[if_pos n];exact r K f) AllReadyH.nil))
end Go.Sat
namespace Go.Proofs.YtapfnehdgailmaaGreat
open Go.RowKit Go.Sat Go.Maps
theorem ok_cut {D:zAA}(h:D.OK){n:Bs}{f:zAT}(d:Sat.get n D.files=some f)(k:Nat):zAA.OK {D with files:=put n ⟨f.data.take k,min f.lasts k⟩ D.files} where
 srt:=zBq h.srt
 room:=h.room
 used:=by
  show zBK zAA.size (put n _ D.files)≤D.room
  rw[sum_put];have c:D.used=zAA.size f+zBK zAA.size (del n D.files):=zC2 h.srt d;have:=h.used;simp only[zAA.size,List.length_take]at c ⊢;omega
 count:=by
  show(put n _ D.files).length≤4096
  rw[zFu];have:=len_del h.srt d;have:=h.count;omega
 names p b:=by
  rcases zBk.1 b with rfl|⟨b,_⟩
  ·exact(h.names (n,f) (zBu d):okN n=true)
  ·exact h.names p b
 lasts p b:=by
  rcases zBk.1 b with rfl|⟨b,_⟩
  ·have c:=h.lasts (n,f) (zBu d)
   show min f.lasts k≤(f.data.take k).length
   rw[List.length_take];have c:f.lasts≤f.data.length:=c;omega
  ·exact h.lasts p b
 fuse:=h.fuse
section
variable {w:World} {r:Nat} {v:Value} {L:List zAR} {own:Nat→Prop} {D:zAA} {room:Nat} {fuse:Option Nat}
theorem zAz.keep {w':World}(h:zAz w r v L own room fuse)(f:w.heap.size≤w'.heap.size)(c:∀k,own k→w'.heap[k]?=w.heap[k]?):zAz w' r v L own room fuse where
 cells:=(c r h.or).trans h.cells
 row:=h.row.keep fun k b=>c k (h.ov k b).1
 data:=fun x d=>OwnR.keep (h.data x d) fun k b=>c k (h.ob x d k b).1
 or:=h.or
 ov:=h.ov
 ob:=h.ob
 olt:=fun k b=>Nat.lt_of_lt_of_le (h.olt k b) f
theorem zAz.c1 (h:zAz w r v L own room fuse):w.cell? ⟨r,1,none⟩=some v:=zAG h.cells rfl
theorem rtrunc_calls (h:zAc w r v L own D)(s:ByteArray)(hs:s.size≤9223372036854775807)(z:Int)(hz:-9223372036854775808≤z)(aQ:z≤9223372036854775807) :
  Calls prog 90 #[.pointer (some ⟨r,0,none⟩),.string s,.int .i64 z] w (zCo w r own (D.truncate (nm s) z)):=by
 have h1:zAc (w.alloc (.cells #[.string s] 9)) r v L own D:=h.below ((Below.refl _ _).alloc (Nat.le_refl _) _);have p:=zCY h1 (some ⟨w.heap.size,0,none⟩) [s] 1 (zBa w s) (by simp) (by simpa using hs);simp only[List.map_cons,List.map_nil]at p
 by_cases hm:D.may [nm s]=0
 ·have V:=zBt h1 s;rw[h.is]at V;rw[hm]at p;cases hg:Sat.get (nm s) D.files with
  | none =>
   rw[hg]at V;have hR:D.truncate (nm s) z=(D,7):=by unfold zAA.truncate;rw[if_neg (by rw[hm];simp),hg]
   rw[hR];have Hf:=zh (fun q=>zBV h (zAt w (.cells #[.string s] 9) q) 7);have E:=zh p;have ad:=zh V;clear h h1 p V hm hR hg
   go_enter func90,ntmps90
   go_wp2_with fail;refine E.o.mono ?_;rintro e w2 ⟨rfl,rfl⟩;go_wp2_with fail;refine ad.o.mono ?_;rintro e w3 ⟨rfl,q,rfl⟩;go_wp2_with fail;go_ret;exact Hf.o q
  | some f =>
   rw[hg]at V;obtain⟨x,hx,aK,rfl⟩:=h.hit hg;have aM:=h.len_le hx;have ap:=List.mem_of_getElem? hx;have hN:zA6 (nm s) (L.map zAR.n)<L.length:=(List.getElem?_eq_some_iff.1 hx).1;rcases h.at with h0|⟨g,c0,al,aA,-⟩
   ·rw[h0]at hN;simp at hN
   have H:v.ownBlock=some g:=by rw[al];rfl
   by_cases aR:0≤z∧z≤(x.f.data.length:Int)
   ·obtain⟨y,rfl⟩:∃y:Nat,z=(y:Int):=⟨z.toNat,by omega⟩;have aD:y≤x.f.data.length:=by omega
    have hR:D.truncate (nm s) (y:Int)=(zAA.done {D with files:=put (nm s) ⟨x.f.data.take y,min x.f.lasts y⟩ D.files},0):=by
     unfold zAA.truncate;rw[if_neg (by rw[hm];simp),hg]
     show(if(y:Int)<0∨(x.f.data.length:Int)<y then _ else _)=_
     rw[if_neg (by omega),Int.toNat_natCast]
    rw[hR];have au:∀v',put (nm s) ⟨x.f.data.take y,min x.f.lasts y⟩ D.files=(L.set (zA6 (nm s) (L.map zAR.n)) ⟨x.n,v',⟨x.f.data.take y,min x.f.lasts y⟩⟩).map zAR.key:=fun v'=>h.put hg ⟨x.n,v',⟨x.f.data.take y,min x.f.lasts y⟩⟩ aK;have aC:=ok_cut h.ok hg y;have aH:=zFW hm;generalize zA6 (nm s) (L.map zAR.n)=i at *;have c:=zW (∀W,Below w.heap.size w W→W.cell? ⟨r,1,none⟩=some (.slice (some ⟨g,0,none⟩) L.length c0)∧W.cell? ⟨g,i*3+1,none⟩=some x.b∧W.frozen? ⟨g,i*3+1,none⟩=false) (fun W hb=>by
     have hW:=h.below hb;refine⟨hW.c1.trans (by rw[al]),(hW.core.at H hx).2.1,hW.core.free H _⟩)
    obtain⟨pb,cb,eb,ar⟩:=zDd (h.data x ap)
    -- behind both stores
    have aq:=zh (show ∀W v' ,Below w.heap.size w W→zAj W 5 v' (x.f.data.take y)→(∀k,v'.ownBlock=some k→w.heap.size≤k∧k<W.heap.size) →
      zAz (W.setCell ⟨g,i*3+1,none⟩ v') r v (L.set i ⟨x.n,v',⟨x.f.data.take y,x.f.lasts⟩⟩) (fun k=>own k∨v'.ownBlock=some k) D.room D.fuse from fun W v' hb hv hn =>
     (h.below hb).core.store H hx 1 (by omega) v' ⟨x.n,v',⟨x.f.data.take y,x.f.lasts⟩⟩ rfl (fun _ h=>.inl h) hv (fun k A=>⟨.inr A,fun e=>by have:=h.olt r h.or;have:=(hn k A).1;omega,fun e=>by have:=h.olt g (h.ov g H).1;have:=(hn k A).1;omega⟩)
      (fun k A=>by
       rcases A with A|A
       ·exact Nat.lt_of_lt_of_le (h.olt k A) hb.size
       ·exact(hn k A).2))
    have ag:=zh (show ∀W v',zAz W r v (L.set i ⟨x.n,v',⟨x.f.data.take y,x.f.lasts⟩⟩) (fun k=>own k∨v'.ownBlock=some k) D.room D.fuse→zAj W 5 v' (x.f.data.take y) →
      zAc (W.setCell ⟨g,i*3+2,none⟩ (.int .i64 ((min x.f.lasts y:Nat):Int))) r v (L.set i ⟨x.n,v',⟨x.f.data.take y,min x.f.lasts y⟩⟩) (fun k=>own k∨v'.ownBlock=some k) {D with files:=put (nm s) ⟨x.f.data.take y,min x.f.lasts y⟩ D.files}from fun W v' hc hv=>by
     have hi:(L.set i ⟨x.n,v',⟨x.f.data.take y,x.f.lasts⟩⟩)[i]?=some ⟨x.n,v',⟨x.f.data.take y,x.f.lasts⟩⟩:=by rw[List.getElem?_set_self (by omega)]
     have aB:=List.mem_of_getElem? hi;have h2:=hc.store H hi 2 (by omega) (.int .i64 ((min x.f.lasts y:Nat):Int)) ⟨x.n,v',⟨x.f.data.take y,min x.f.lasts y⟩⟩ rfl (fun _ h=>h) hv (fun k A=>⟨.inr A,(hc.ob _ aB k A).2.1,fun e=>(hc.ob _ aB k A).2.2 (by rw[H,e])⟩) hc.olt;rw[List.set_set]at h2;exact h2.full rfl rfl (au v') aC)
    have F:=zW (own r∧own g∧r≠g∧g<w.heap.size) (⟨h.or,(h.ov g H).1,(h.ov g H).2.symm,h.olt g (h.ov g H).1⟩);have Hd:=zW (∀W,Below w.heap.size w W→zAY W (.slice pb y cb) (x.f.data.take y)) (fun W hb=>zAY.cut (by rw[←eb];exact((h.below hb).data x ap).has) aD cb);have ac:=zW ((x.f.data.take y).length=y) (by rw[List.length_take];omega);have ay:=zh aH;rw[eb]at c;obtain⟨i0,hi,aw,aE,aF⟩:=info_parts (show(prog.info? 5).map (fun i=>(i.zero,i.size,i.bytes))=some (some (.int .u8 0),1,1) by kernel_rfl);have aG:y≤cb:=Nat.le_trans aD ar;have aP:∀W,(Instr.slice 22 (.slice pb x.f.data.length cb) none (some (.int .i64 (y:Int))) none).run prog W=.ok (.slice pb y cb) W:=fun W=>zB9 W underlying22 hi pb _ cb y aG;have aL:min (x.f.lasts:Int) (y:Int)=((min x.f.lasts y:Nat):Int):=by omega
    generalize aJ:x.f.data.length=m at *;generalize aI:x.f.lasts=la at *;have E:=zh p;have ad:=zh V;clear h h1 p V hm hR hg au aC hx ap eb H aJ aI aA ar;subst al
    go_enter func90,ntmps90
    go_wp2_with fail;refine E.o.mono ?_;rintro e w2 ⟨rfl,rfl⟩;go_wp2_with fail;refine ad.o.mono ?_;rintro e w3 ⟨rfl,q,rfl⟩;have ax:=zh (zAt w (.cells #[.string s] 9) q);generalize (w.alloc (.cells #[.string s] 9)).drewN q=W at *;obtain⟨G,S,aa⟩:=c.o W ax.o;go_wp2_with fail;have X0:=zW (Below w.heap.size w W.drew) (ax.o.trans ⟨rfl,rfl,rfl,Nat.le_refl _,fun _ _=>rfl⟩);clear G S aa;have hS:=(c.o _ X0.o).1;refine ost (fun W':World=>W'.cell? ⟨r,1,none⟩=some (.slice (some ⟨g,0,none⟩) L.length c0)) 20 hS fun d=>?_;clear hS;generalize W.drew=Wd at *;refine Pl [0,1,2,3,4,6,7,8,9,10,11,12,14] ?_
    iterate 13 (refine Pc rfl ?_;simp only[uZ])
    refine Pn ?_;refine zCw 5 13 rfl rfl (by kernel_rfl) (by rfl) (by rfl) (fun K J=>?_) (fun K J=>?_)
    focus
     go_wp2_with fail;have X1:=zh (X0.o.alloc X0.o.size (.cells #[] 5));refine J.o _ _ ((c.o _ X1.o).1) fun d=>?_;clear J;try simp only[uZ]
     refine oon 13 rfl fun K J=>?_;have S:=(c.o _ X1.o).2.1;go_wp2_with fail;clear S;refine J.o _ _ ((c.o _ X1.o).1) fun d=>?_;clear J;try simp only[uZ]
     refine otk 15 (v:=?v1x15) rfl ?_;simp only[uZ]
    rotate_left
    focus
     have S:=(c.o _ X0.o).2.1;go_wp2_with fail;clear S;refine J.o _ _ ((c.o _ X0.o).1) fun d=>?_;clear J;try simp only[uZ]
     refine otk 15 (v:=?v2x15) rfl ?_;simp only[uZ];refine oon 5 rfl fun K J=>?_;go_wp2_with fail;have X1:=zh (X0.o.alloc X0.o.size (.cells #[] 5));refine J.o _ _ ((c.o _ X1.o).1) fun d=>?_;clear J;try simp only[uZ]
    all_goals
     refine oon 16 rfl fun K J=>?_;have Q:=zAx Wd 5;have X:=Hd.o _ X1.o;unfold zAY at X;rw[ac.o]at X;refine zAn (.tmp 45) (.tmp 55) 22 (by rfl) 5 i0 (.int .u8 0) 1 1 underlying22 hi aw aE aF rfl (by decide) (.slice (some ⟨Wd.heap.size,0,none⟩) 0 0) 0 [] (by rfl) Q (.slice pb y cb) y _ (by rfl) X (zAO _) (by unfold maxLen;omega) (by omega) ?_;clear Q X;intro v6 w6 l C O;have X6:=zh (X1.o.grown C X1.o.size (fun j e=>by have:=X0.o.size;simp[Value.ownBlock]at e;omega));have P:=zA2 (B:=w.heap.size) O (fun k A=>by have:=X0.o.size;simp[Value.ownBlock]at A;omega) X1.o.size;rw[Nat.zero_add,List.nil_append]at l;obtain⟨R,I,rfl⟩:=OwnR.shape l;have ab:=zW (zAj w6 5 (.slice R y I) (x.f.data.take y)) (by unfold zAj;rw[ac.o];exact l);have t:=zh P;clear C O l P;refine J.o _ _ ((c.o _ X6.o).1) fun d=>?_;clear J;try simp only[uZ]
     refine Pl [17,18] ?_;iterate 2 (refine Pc rfl ?_;simp only[uZ])
     refine Pn ?_;refine oon 19 rfl fun K J=>?_;obtain⟨G,S,aa⟩:=c.o _ X6.o;go_wp2_with fail;have av:(w6.setCell ⟨g,i*3+1,none⟩ (.slice R y I)).cell? ⟨r,1,none⟩=some (.slice (some ⟨g,0,none⟩) L.length c0):=(World.cell?_of_block (set_other _ F.o.2.2.1)).trans G;clear G S aa;refine J.o _ _ (av) fun d=>?_;clear J;try simp only[uZ]
     refine odn ?_;clear d;have N:=aq.o w6 (.slice R y I) X6.o ab.o (fun k A=>⟨t.o k A,OwnR.lt ab.o A⟩);have an:zAj (w6.setCell ⟨g,i*3+1,none⟩ (.slice R y I)) 5 (.slice R y I) (x.f.data.take y):=OwnR.keep ab.o fun k A=>set_other _ (fun e=>by have h1:k=g:=e;have:=t.o k A;have:=F.o.2.2.2;omega);have aj:=zCd X6.o (zDq (own:=own) (w:=w6) (a:=⟨g,i*3+1,none⟩) (u:=.slice R y I) F.o.2.1);have ak:w.heap.size≤(w6.setCell ⟨g,i*3+1,none⟩ (.slice R y I)).heap.size:=by have:=X6.o.size;simpa[World.setCell]using this
     have H7:=zh (And.intro N (And.intro an (And.intro aj ak)));clear N an aj ak;generalize w6.setCell ⟨g,i*3+1,none⟩ (.slice R y I)=T at *;have am:(L.set i ⟨x.n,.slice R y I,⟨x.f.data.take y,la⟩⟩)[i]?=some ⟨x.n,.slice R y I,⟨x.f.data.take y,la⟩⟩:=by rw[List.getElem?_set_self (by omega)]
     have ah:=zh am;clear am;obtain⟨-,-,ai⟩:=H7.o.1.at rfl ah.o;have G:=H7.o.1.c1;go_wp2_with fail;go_still_tail 15,(by kernel_rfl);clear G ai;change wpList _ _ _ _ _ T.drew;have U:zAz T.drew r _ _ _ _ _:=H7.o.1.keep (Nat.le_refl _) (fun _ _=>rfl);have ao:zAj T.drew 5 (.slice R y I) (x.f.data.take y):=OwnR.keep H7.o.2.1 (fun _ _=>rfl);have Z:=ag.o _ _ U ao;obtain⟨-,-,ai⟩:=U.at rfl ah.o;have az:=U.free rfl (i*3+2);have Y:Chg own w T.drew:=H7.o.2.2.1.trans (Chg.drew T) (fun _ _ h=>h.elim);have M:Chg own w (T.drew.setCell ⟨g,i*3+2,none⟩ (.int .i64 ((min la y:Nat):Int))):=Y.trans (zDq (own:=own) (w:=T.drew) (a:=⟨g,i*3+2,none⟩) F.o.2.1) (fun _ _ h=>h);have af:=zh (zCy Z ay.o);have ae:=zh (And.intro M (show w.heap.size≤(T.drew.setCell ⟨g,i*3+2,none⟩ (.int .i64 ((min la y:Nat):Int))).heap.size from M.size));clear U ao Z Y M H7;generalize T.drew=Wt at *;go_wp2_with fail;refine af.o.mono ?_;intro e w8 h8;have hE:=zDf ae.o.1 (fun k A=>A.imp id (fun e=>t.o k e)) ae.o.2 h8;obtain⟨rfl,-⟩:=h8;have HE:=zh hE;clear hE;go_wp2_with fail;go_ret;exact HE.o
   ·have hR:D.truncate (nm s) z=(D,1):=by
     unfold zAA.truncate;rw[if_neg (by rw[hm];simp),hg]
     show(if z<0∨(x.f.data.length:Int)<z then _ else _)=_
     rw[if_pos (by omega)]
    rw[hR];generalize zA6 (nm s) (L.map zAR.n)=i at *;have Hf:=zh (fun q=>zBV h (zAt w (.cells #[.string s] 9) q) 1);have c:=zW (∀W,Below w.heap.size w W→W.cell? ⟨r,1,none⟩=some (.slice (some ⟨g,0,none⟩) L.length c0)∧W.cell? ⟨g,i*3+1,none⟩=some x.b) (fun W hb=>by
     have hW:=h.below hb;exact⟨hW.c1.trans (by rw[al]),(hW.core.at H hx).2.1⟩)
    obtain⟨pb,cb,eb⟩:=zAY.slice (h.data x ap).has;rw[eb]at c;generalize x.f.data.length=m at *;have E:=zh p;have ad:=zh V;clear h h1 p V hm hR hg hx ap eb H aA;subst al
    by_cases aw:z<0
    ·go_enter func90,ntmps90
     go_wp2_with fail;refine E.o.mono ?_;rintro e w2 ⟨rfl,rfl⟩;go_wp2_with fail;refine ad.o.mono ?_;rintro e w3 ⟨rfl,q,rfl⟩;go_wp2_with fail;go_ret;exact Hf.o q
    ·obtain⟨y,rfl⟩:∃y:Nat,z=(y:Int):=⟨z.toNat,by omega⟩;have aN:m<y:=by omega
     go_enter func90,ntmps90
     go_wp2_with fail;refine E.o.mono ?_;rintro e w2 ⟨rfl,rfl⟩;go_wp2_with fail;refine ad.o.mono ?_;rintro e w3 ⟨rfl,q,rfl⟩;obtain⟨G,S⟩:=c.o _ (zAt w (.cells #[.string s] 9) q);go_wp2_with fail;go_ret;exact Hf.o q
 ·have hR:D.truncate (nm s) z=(D,D.may [nm s]):=by unfold zAA.truncate;rw[if_pos hm]
  rw[hR];have Hf:=zh (zBV h ((Below.refl _ _).alloc (Nat.le_refl _) (.cells #[.string s] 9)) (D.may [nm s]));have E:=zh p;generalize D.may [nm s]=m at *;have aO:((m:Int) != 0)=true:=by simp;omega
  clear h h1 p hR
  go_enter func90,ntmps90
  go_wp2_with fail;refine E.o.mono ?_;rintro e w2 ⟨rfl,rfl⟩;go_wp2_with fail;go_ret;exact Hf.o
end
theorem zDB {w:World}{p:Option Addr}{n c:Nat}{l:List Int}(a:zBe w (.slice p n c) l)(G:∀z∈l,-9223372036854775808≤z∧z≤9223372036854775807)(O:l.length≤1073741824) :
  Calls prog 173 #[.slice p n c] w (zBd w (zDs l)):=by
 obtain⟨Q,M,A,B,C⟩:=info_parts (show(prog.info? 3).map (fun i=>(i.zero,i.size,i.bytes))=some (some (.int .i64 0),1,8) by kernel_rfl);have hn:l.length=n:=by obtain⟨_,_,e⟩:=a.slice;simp only[Value.slice.injEq]at e;exact e.2.1.symm
 have m:=zW (OwnR (w.alloc (.cells #[.int .i64 (n:Int)] 3)) 3 1 (.slice (some ⟨w.heap.size,0,none⟩) 1 1) 1 [.int .i64 (n:Int)]) (⟨rfl,.inr ⟨w.heap.size,1,#[.int .i64 (n:Int)],rfl,zAI w _,Nat.le_refl _,by decide,Nat.le_refl _,rfl⟩⟩);have v:=zW (zAM (w.alloc (.cells #[.int .i64 (n:Int)] 3)) 1 (.slice p n c) n (l.map (Value.int .i64))) (by
  have:=zAM.chg a (Chg.of_below (zAD w (.cells #[.int .i64 (n:Int)] 3))) fun _ _=>id;rwa[hn]at this)
 have t:=zh hn;have L:=zh G;have E:n≤1073741824:=by omega
 clear a hn G O
 go_enter func173,ntmps173
 go_wp2_with (at_builtin;refine zAP _ rfl (.tmp 5) (.tmp 6) 38 rfl 3 Q (.int .i64 0) 1 8 underlying38 M A B C rfl (by decide) (.slice (some ⟨w.heap.size,0,none⟩) 1 1) 1 _ rfl m.o (.slice p n c) n _ rfl v.o (fun u P=>by obtain⟨z,-,rfl⟩:=List.mem_map.1 P;rfl) (by unfold maxLen;omega) (by omega) ?_;intro v3 w3 b d g;go_loud (have s:=zW (Below w.heap.size w w3) ((zAD w (.cells #[.int .i64 (n:Int)] 3)).grown d (zAD w (.cells #[.int .i64 (n:Int)] 3)).size fun j e=>by cases e;exact Nat.le_refl _);clear d g;obtain⟨R,S,rfl⟩:=OwnR.shape b;have I:=zh b;clear b))
 have f:=zh (zB4 (w:=w3) (p:=R) (n:=1+n) (c:=S) (zs:=(n:Int)::l) (by
  have:=OwnR.holds I.o;unfold zBe;rw[List.length_cons,t.o,Nat.add_comm n 1];exact this) (fun z D=>by
   rcases List.mem_cons.1 D with rfl|h
   ·omega
   ·exact L.o z h) (by rw[List.length_cons,t.o];omega))
 have J:=zW (zAp ((n:Int)::l)=zDs l) (by
  rw[show zAp ((n:Int)::l)=zDj (n:Int)++zAp l from rfl,zB7 (show n≤4611686018427387904 by omega),←t.o];rfl)
 rw[J.o]at f;refine f.o.mono ?_;rintro e T ⟨y,rfl,F,r,q⟩;have H:=zW (zBd w (zDs l) (.returned y) T) (⟨y,rfl,F,fun k N=>Nat.le_trans s.o.size (r k N),s.o.trans (q.mono s.o.size)⟩);clear F r q;go_wp2_with fail;go_ret;exact H.o
def fstB0 (n t:Int)(g:List Int):Bs:=1::(zDj n++zDj t++zDs g)
theorem fstB0_nat {n:Nat}(h:n≤4611686018427387904)(t:Int)(g:List Int):fstB0 (n:Int) t g=zEp n t g:=by
 unfold fstB0 zEp;rw[zB7 h]
abbrev RJC (r:Nat)(n t:Int)(g:Value)(pre:ByteArray)(d c:Int)(dv f:Value)(b:Bool):Obj:=.cells #[.int .i64 n,.int .i64 t,g,.pointer (some ⟨r,0,none⟩),.string pre,.int .i64 d,.int .i64 c,dv,f,.bool b] 84 (0,0)
theorem rowB_lit2 {w W:World}(b:Below w.heap.size w W)(x:UInt8)(g:Nat)(c:g=W.heap.size):zCn w (W.alloc (.cells #[.int .u8 (x.toNat:Int)] 5)) (.slice (some ⟨g,0,none⟩) 1 1) [x]:=by
 subst c;exact⟨own_lit #[.int .u8 (x.toNat:Int)] [x] 5 rfl 1 rfl (by decide),fun k d=>by cases d;exact b.size,b.trans ((zAD W _).mono b.size)⟩
theorem hasI_two (W:World)(n t:Int)(g:Nat)(c:g=W.heap.size):zBe (W.alloc (.cells #[.int .i64 n,.int .i64 t] 3)) (.slice (some ⟨g,0,none⟩) 2 2) [n,t]:=by
 subst c;exact⟨by simp,some ⟨W.heap.size,0,none⟩,2,rfl,fun e=>(by cases e),fun a b i u d=>by
  cases b;rw[add_zero];refine zAG (zAI W _) ?_;simpa using d⟩
theorem zGH (g:List Int)(h:g.length≤1000):(zDs g).length≤9009:=by
 unfold zDs;have b:=zAg (n:=g.length) (by omega);have c:=zA9 g;rw[List.length_append];omega
theorem rfirst_calls {w:World}{j r:Nat}{n t:Int}{pre:ByteArray}{aG an:Int}{dv ev:Value}{am:Bool}{p:Option Addr}{m c:Nat}{g:List Int}(hc:w.heap[j]?=some (RJC r n t (.slice p m c) pre aG an dv ev am))(hg:zBe w (.slice p m c) g)(hz:∀z∈g,-9223372036854775808≤z∧z≤9223372036854775807)(hl:g.length≤1000)(hn:-9223372036854775808≤n∧n≤9223372036854775807)(ht:-9223372036854775808≤t∧t≤9223372036854775807) :
  Calls prog 167 #[.pointer (some ⟨j,0,none⟩)] w (zBd w (zAK (fstB0 n t g))):=by
 obtain⟨i0,hi,ab,ac,ad⟩:=info_parts (show(prog.info? 5).map (fun i=>(i.zero,i.size,i.bytes))=some (some (.int .u8 0),1,1) by kernel_rfl);have c0:=zAW hc;have c1:=zAd hc;have c2:=zAb hc;have Hg:=zh hg;have Hz:=zh hz;have Hl:=zh hl;clear hg hz c0 c1 c2;have HT:=zW ([1]++zAp [n,t]++zDs g=fstB0 n t g) (by simp[zAp,fstB0]);have aF:=zA9 [n,t];have aJ:(zAp [n,t]).length≤18:=by simpa using aF
 have au:=zh (zGH g hl);clear aF
 go_enter func167,ntmps167
 go_wp2_with fail;refine ost (fun w':World=>w'.heap[j]?=some (RJC r n t (.slice p m c) pre aG an dv ev am)) 15 (hc) fun b=>?_;have ao:=zh (zAV w);have av:=zh hc;have ax:=zh (zAB hc);clear hc;generalize w.drew=R at *;refine Pl [1,2,3,4,5,6,7,8,9,10] ?_
 iterate 10 (refine Pd rfl (by intro w aD;have q0:=zAW aD;have q1:=zAd aD;go_simp;try with_reducible rfl) ?_;simp only[uZ])
 refine Pn ?_;refine zCw 0 11 rfl rfl (by kernel_rfl) (by rfl) (by rfl) (fun K A=>?_) (fun K A=>?_)
 ·have aw:=zh ((zDG R (.cells #[.int .u8 1] 5) (zAB b)).trans b);have aA:=zh (rowB_lit2 ao.o 1 (R.heap.size) (by simp));have aa:=zh (aA.o.bel);go_wp2_with fail;refine A.o _ _ (aw.o) fun b=>?_;clear A
  try simp only[uZ]
  refine oon 11 rfl fun K A=>?_;have D:=zh ((zDG (R.alloc (.cells #[.int .u8 1] 5)) (.cells #[.int .i64 n,.int .i64 t] 3) (zAB b)).trans b);have ap:=zh (hasI_two (R.alloc (.cells #[.int .u8 1] 5)) n t (R.heap.size+1) (by simp));have Y:=zh (aa.o.trans ((zAD (R.alloc (.cells #[.int .u8 1] 5)) (.cells #[.int .i64 n,.int .i64 t] 3)).mono aa.o.size));go_wp2_with fail;refine A.o _ _ (D.o) fun b=>?_;clear A
  try simp only[uZ]
  refine oon 12 rfl fun K A=>?_;have G:=zh (zB4 ap.o (by simp;omega) (by simp));go_wp2_with fail;refine G.o.mono ?_;rintro e w2 ⟨x,rfl,L,ak,E⟩;have ag:=zh ((E.block _ (zAB b)).trans b);have ay:=zh (Y.o.trans (E.mono Y.o.size));have aq:=zh L;have ar:=zh E;obtain⟨px,cx,rfl,-⟩:=zAN L;clear L ak E G;generalize S:(zAp [n,t]).length=B at *;have Z:=zh S;clear S;go_wp2_with fail;refine A.o _ _ (ag.o) fun b=>?_;clear A
  try simp only[uZ]
  have O:=zh ((aA.o.next (zAD _ (.cells #[.int .i64 n,.int .i64 t] 3))).next ar.o);have ae:=zh (zAj.has aq.o);have Q:=zW (OwnR w2 5 1 (.slice (some ⟨R.heap.size,0,none⟩) 1 1) 1 (zAQ [1])) O.o.own;have ai:=zh (show zAM w2 1 (.slice px B cx) B (zAQ (zAp [n,t])) by have:=ae.o;unfold zAY at this;rwa[Z.o]at this);refine oon 13 rfl fun K A=>?_;refine zAn (.tmp 4) (.tmp 16) 22 rfl 5 i0 (.int .u8 0) 1 1 underlying22 hi ab ac ad rfl (by decide) (.slice (some ⟨R.heap.size,0,none⟩) 1 1) 1 _ rfl Q.o (.slice px B cx) B _ rfl ai.o (zAO _) (by unfold maxLen;omega) (by omega) ?_;intro v3 w3 d q a;have HE:=zh (zCn.grown (x:=zAp [n,t]) O.o (by rw[Z.o];exact d) q a);have D:=zh ((HE.o.bel.block j ax.o).trans av.o);obtain⟨p3,q3,rfl⟩:=OwnR.shape d;have ah:=zh d;clear d q a;refine A.o _ _ (D.o) fun b=>?_;clear A
  try simp only[uZ]
  refine otk 14 (v:=?v31x14) rfl ?_;simp only[uZ];refine odn ?_;have d2:=zAb D.o;have P:=zh (zDB (w:=w3) (p:=p) (n:=m) (c:=c) (l:=g) (zAM.chg Hg.o (Chg.of_below HE.o.bel) fun _ _=>id) Hz.o (Nat.le_trans Hl.o (by decide)));go_wp2_with fail;refine P.o.mono ?_;rintro e w4 ⟨y,rfl,hy,al,U⟩;have N:=zh (HE.o.next U);have af:=zh (zAj.has hy);obtain⟨py,cy,rfl,-⟩:=zAN hy;clear hy al U P d2;generalize T:(zDs g).length=M at *;have I:=zh T;have aE:M≤10000:=by
   have h1:=au.o;omega
  have F:=zW ((([1]:Bs)++zAp [n,t]).length=1+B) (by rw[List.length_append,Z.o];rfl);have J:=zh (show OwnR w4 5 1 (.slice p3 (1+B) q3) (1+B) (zAQ ([1]++zAp [n,t])) by have:=N.o.own;unfold zAj at this;rwa[F.o]at this);have aj:=zh (show zAM w4 1 (.slice py M cy) M (zAQ (zDs g)) by have:=af.o;unfold zAY at this;rwa[I.o]at this);clear T;go_wp2_with (at_builtin;refine zAP _ rfl (.tmp 18) (.tmp 24) 22 rfl 5 i0 (.int .u8 0) 1 1 underlying22 hi ab ac ad rfl (by decide) (.slice p3 (1+B) q3) (1+B) _ rfl J.o (.slice py M cy) M _ rfl aj.o (zAO _) (by unfold maxLen;omega) (by omega) ?_;intro v5 w5 f s h;go_loud (have hE:=zCn.grown (x:=zDs g) N.o (by rw[F.o,I.o];exact f) s h;rw[HT.o]at hE;have C:=zh hE;clear s h hE;obtain⟨p5,q5,rfl⟩:=OwnR.shape f;clear f))
  have H:=zh (zBo (p:=p5) (m:=1+B+M) (c:=q5) (l:=fstB0 n t g) (w:=w5) C.o.own.has (by rw[←HT.o,List.length_append,List.length_append,Z.o,I.o];simp;omega));refine H.o.mono ?_;rintro e w6 ⟨z,rfl,W,X,V⟩;have HF:=zW (zBd w (zAK (fstB0 n t g)) (.returned z) w6) (⟨z,rfl,W,fun k hk=>Nat.le_trans C.o.bel.size (X k hk),C.o.bel.trans (V.mono C.o.bel.size)⟩);clear W X V H;go_wp2_with fail;go_ret;exact HF.o
 ·have aw:=zh ((zDG R (.cells #[.int .i64 n,.int .i64 t] 3) (zAB b)).trans b);have az:=zh (hasI_two R n t (R.heap.size) (by simp));have aa:=zh (ao.o.trans ((zAD R (.cells #[.int .i64 n,.int .i64 t] 3)).mono ao.o.size));go_wp2_with fail;refine A.o _ _ (aw.o) fun b=>?_;clear A
  try simp only[uZ]
  refine zCw 0 12 rfl rfl (by kernel_rfl) (by rfl) (by rfl) (fun K A=>?_) (fun K A=>?_)
  focus
   have D:=zh ((zDG (R.alloc (.cells #[.int .i64 n,.int .i64 t] 3)) (.cells #[.int .u8 1] 5) (zAB b)).trans b);have aB:=zh (rowB_lit2 aa.o 1 (R.heap.size+1) (by simp));have Y:=zh (aB.o.bel);go_wp2_with fail;refine A.o _ _ (D.o) fun b=>?_;clear A;try simp only[uZ]
   refine oon 12 rfl fun K A=>?_;have ap:=zW (zBe ((R.alloc (.cells #[.int .i64 n,.int .i64 t] 3)).alloc (.cells #[.int .u8 1] 5)) _ [n,t]) (zAM.chg az.o (Chg.of_below (zAD _ (.cells #[.int .u8 1] 5))) fun _ _=>id);have G:=zh (zB4 ap.o (by simp;omega) (by simp));go_wp2_with fail;refine G.o.mono ?_;rintro e w2 ⟨x,rfl,L,ak,E⟩;have ag:=zh ((E.block _ (zAB b)).trans b);have ay:=zh (Y.o.trans (E.mono Y.o.size));have aq:=zh L;have ar:=zh E;obtain⟨px,cx,rfl,-⟩:=zAN L;clear L ak E G;generalize S:(zAp [n,t]).length=B at *;have Z:=zh S;clear S;go_wp2_with fail;refine A.o _ _ (ag.o) fun b=>?_;clear A;try simp only[uZ]
   have O:=zh (aB.o.next ar.o);have ae:=zh (zAj.has aq.o);have Q:=zW (OwnR w2 5 1 (.slice (some ⟨R.heap.size+1,0,none⟩) 1 1) 1 (zAQ [1])) O.o.own;have ai:=zh (show zAM w2 1 (.slice px B cx) B (zAQ (zAp [n,t])) by have:=ae.o;unfold zAY at this;rwa[Z.o]at this);refine oon 13 rfl fun K A=>?_;refine zAn (.tmp 4) (.tmp 16) 22 rfl 5 i0 (.int .u8 0) 1 1 underlying22 hi ab ac ad rfl (by decide) (.slice (some ⟨R.heap.size+1,0,none⟩) 1 1) 1 _ rfl Q.o (.slice px B cx) B _ rfl ai.o (zAO _) (by unfold maxLen;omega) (by omega) ?_;intro v3 w3 d q a;have HE:=zh (zCn.grown (x:=zAp [n,t]) O.o (by rw[Z.o];exact d) q a);have D:=zh ((HE.o.bel.block j ax.o).trans av.o);obtain⟨p3,q3,rfl⟩:=OwnR.shape d;have ah:=zh d;clear d q a;refine A.o _ _ (D.o) fun b=>?_;clear A;try simp only[uZ]
   refine otk 14 (v:=?v32x14) rfl ?_
  rotate_left
  focus
   have G:=zh (zB4 az.o (by simp;omega) (by simp));go_wp2_with fail;refine G.o.mono ?_;rintro e w2 ⟨x,rfl,L,ak,E⟩;have D:=zh ((E.block _ (zAB b)).trans b);have Y:=zh (aa.o.trans (E.mono aa.o.size));have aH:=zh L;have aI:=zh E;obtain⟨px,cx,rfl,-⟩:=zAN L;clear L ak E G;generalize S:(zAp [n,t]).length=B at *;have Z:=zh S;clear S;go_wp2_with fail;refine A.o _ _ (D.o) fun b=>?_;clear A;try simp only[uZ]
   refine oon 0 rfl fun K A=>?_;have ag:=zh ((zDG w2 (.cells #[.int .u8 1] 5) (zAB b)).trans b);have aC:=zh (rowB_lit2 Y.o 1 (w2.heap.size) (by simp));have ay:=zh (aC.o.bel);go_wp2_with fail;refine A.o _ _ (ag.o) fun b=>?_;clear A;try simp only[uZ]
   have O:=zh aC.o;have ae:=zh (zAj.has (zCL aH.o (zAD w2 (.cells #[.int .u8 1] 5))));have Q:=zW (OwnR (w2.alloc (.cells #[.int .u8 1] 5)) 5 1 (.slice (some ⟨w2.heap.size,0,none⟩) 1 1) 1 (zAQ [1])) O.o.own;have ai:=zh (show zAM (w2.alloc (.cells #[.int .u8 1] 5)) 1 (.slice px B cx) B (zAQ (zAp [n,t])) by have:=ae.o;unfold zAY at this;rwa[Z.o]at this);refine oon 13 rfl fun K A=>?_;refine zAn (.tmp 4) (.tmp 16) 22 rfl 5 i0 (.int .u8 0) 1 1 underlying22 hi ab ac ad rfl (by decide) (.slice (some ⟨w2.heap.size,0,none⟩) 1 1) 1 _ rfl Q.o (.slice px B cx) B _ rfl ai.o (zAO _) (by unfold maxLen;omega) (by omega) ?_;intro v3 w3 d q a;have HE:=zh (zCn.grown (x:=zAp [n,t]) O.o (by rw[Z.o];exact d) q a);have D:=zh ((HE.o.bel.block j ax.o).trans av.o);obtain⟨p3,q3,rfl⟩:=OwnR.shape d;have ah:=zh d;clear d q a;refine A.o _ _ (D.o) fun b=>?_;clear A;try simp only[uZ]
   refine otk 14 (v:=?v33x14) rfl ?_
  all_goals
   simp only[uZ];refine odn ?_;have d2:=zAb D.o;have P:=zh (zDB (w:=w3) (p:=p) (n:=m) (c:=c) (l:=g) (zAM.chg Hg.o (Chg.of_below HE.o.bel) fun _ _=>id) Hz.o (Nat.le_trans Hl.o (by decide)));go_wp2_with fail;refine P.o.mono ?_;rintro e w4 ⟨y,rfl,hy,al,U⟩;have N:=zh (HE.o.next U);have af:=zh (zAj.has hy);obtain⟨py,cy,rfl,-⟩:=zAN hy;clear hy al U P d2;generalize T:(zDs g).length=M at *;have I:=zh T;have aE:M≤10000:=by
    have h1:=au.o;omega
   have F:=zW ((([1]:Bs)++zAp [n,t]).length=1+B) (by rw[List.length_append,Z.o];rfl);have J:=zh (show OwnR w4 5 1 (.slice p3 (1+B) q3) (1+B) (zAQ ([1]++zAp [n,t])) by have:=N.o.own;unfold zAj at this;rwa[F.o]at this);have aj:=zh (show zAM w4 1 (.slice py M cy) M (zAQ (zDs g)) by have:=af.o;unfold zAY at this;rwa[I.o]at this);clear T;go_wp2_with (at_builtin;refine zAP _ rfl (.tmp 18) (.tmp 24) 22 rfl 5 i0 (.int .u8 0) 1 1 underlying22 hi ab ac ad rfl (by decide) (.slice p3 (1+B) q3) (1+B) _ rfl J.o (.slice py M cy) M _ rfl aj.o (zAO _) (by unfold maxLen;omega) (by omega) ?_;intro v5 w5 f s h;go_loud (have hE:=zCn.grown (x:=zDs g) N.o (by rw[F.o,I.o];exact f) s h;rw[HT.o]at hE;have C:=zh hE;clear s h hE;obtain⟨p5,q5,rfl⟩:=OwnR.shape f;clear f));have H:=zh (zBo (p:=p5) (m:=1+B+M) (c:=q5) (l:=fstB0 n t g) (w:=w5) C.o.own.has (by rw[←HT.o,List.length_append,List.length_append,Z.o,I.o];simp;omega));refine H.o.mono ?_;rintro e w6 ⟨z,rfl,W,X,V⟩;have HF:=zW (zBd w (zAK (fstB0 n t g)) (.returned z) w6) (⟨z,rfl,W,fun k hk=>Nat.le_trans C.o.bel.size (X k hk),C.o.bel.trans (V.mono C.o.bel.size)⟩);clear W X V H;go_wp2_with fail;go_ret;exact HF.o
theorem four_inv (b c d f:UInt8):zA4 (ofFour b c d f)=[b,c,d,f]:=by
 have g:=b.toNat_lt;have i:=c.toNat_lt;have j:=d.toNat_lt;have k:=f.toNat_lt;have e:∀(n:Nat) (a:UInt8),n%256=a.toNat→UInt8.ofNat n=a:=fun n a h=>by
  apply UInt8.toNat_inj.1;rw[UInt8.toNat_ofNat'];exact h
 unfold zA4 ofFour;rw[e _ b (by omega),e _ c (by omega),e _ d (by omega),e _ f (by omega)]
theorem fourAt_inv {b:Bs}(h:4≤b.length):zA4 (fourAt b)=b.take 4:=by
 match b,h with
 | a0::a1::a2::a3::r,_=>exact four_inv a0 a1 a2 a3
theorem four_inj {m n:Nat}(c:m<4294967296)(hn:n<4294967296)(h:zA4 m=zA4 n):m=n:=by
 have b:=zDY m c [];have d:=zDY n hn [];rw[h]at b;omega
theorem head_iff {b:Bs}(h:8≤b.length):b.take 8=zCG (fourAt b)↔fourAt (b.drop 4)=sumN (b.take 4):=by
 have f:=fourAt_inv (b:=b) (by omega);have g:=fourAt_inv (b:=b.drop 4) (by rw[List.length_drop];omega);have c:b.take 8=b.take 4++(b.drop 4).take 4:=by rw[←List.take_add]
 have d:zCG (fourAt b)=b.take 4++zA4 (sumN (b.take 4)):=by
  show zA4 (fourAt b)++zA4 (sumN (zA4 (fourAt b)))=_
  rw[f]
 rw[c,d,List.append_cancel_left_eq,←g];exact⟨fun e=>four_inj (zDZ _) (zF1 _) e,fun e=>by rw[e]⟩
theorem zCx {P:Program}{f:FuncId}{args:Array Value}{w:World}{n:Nat}{v:Value}(h:Calls P f args (w.drewN n) fun e w'=>e=.returned v∧∃q,w'=(w.drewN n).drewN q):Calls P f args (w.drewN n) fun e b=>e=.returned v∧∃m,b=w.drewN m :=
 h.mono fun _ _ ⟨c,q,d⟩=>⟨c,n+q,by rw[d,World.drewN_drewN]⟩
theorem run_window {P:Program}(W:World)(t e:TypeId)(j:P.underlying t=some (.slice e))(n:∀w,(Go.sizeOf e).run P w=.ok 1 w)(b o g c l h:Nat)(m:l≤h)(p:h≤c)(q:l<c) :
  (Instr.slice t (.slice (some ⟨b,o,none⟩) g c) (some (.int .i64 (l:Int))) (some (.int .i64 (h:Int))) none).run P W=.ok (.slice (some ⟨b,o+l,none⟩) (h-l) (c-l)) W:=by
 have f:P.underlying t=some (.slice (P.elem t)):=by simp[Program.elem,j]
 have k:P.elem t=e:=by simp[Program.elem,j]
 rw[run_slice_lh W t _ _ _ f .i64 .i64 _ _ (by omega) (by omega) (by omega),k,n];have d:¬c=l:=by omega
 by_cases i:l=0
 ·subst i;simp[Result.andThen,sliced,Addr.add,d]
 ·simp[Result.andThen,sliced,Addr.add,d,i]
theorem zAs (w:World)(n:Nat):Below w.heap.size w (w.drewN n):=⟨rfl,rfl,rfl,Nat.le_refl _,fun _ _=>rfl⟩
theorem zDk {w W:World}(h:Below w.heap.size w W)(n:Nat):Below w.heap.size w (W.drewN n):=h.trans ⟨rfl,rfl,rfl,Nat.le_refl _,fun _ _=>rfl⟩
theorem rdec_calls {w:World}{p:Option Addr}{n c:Nat}{b:Bs}(h:zAY w (.slice p n c) b)(R:n≤c)(hl:b.length≤140737488355328) :
  Calls prog 165 #[.slice p n c] w (zEJ w b):=by
 have hn:n=b.length:=(zCc h).1;subst hn;obtain⟨i0,I,K,C,aa⟩:=info_parts (show(prog.info? 5).map (fun i=>(i.zero,i.size,i.bytes))=some (some (.int .u8 0),1,1) by kernel_rfl)
 by_cases H:b.length<8
 ·have d:=zh (zBb (w:=w) (w':=w) (b:=b) (k:=2) (by unfold decE;rw[if_pos H]) (by decide) (Below.refl _ _));generalize hN:b.length=N at *;clear hN h
  go_enter func165,ntmps165
  go_wp2_with fail
  go_ret3
  exact d.o
 ·have E:0<b.length:=by omega
  rcases h.at with e|⟨g,o,c2,e,-⟩
  ·rw[e]at E;simp at E
  cases e;have J:=zh (fun(W:World) (s:Below w.heap.size w W)=>rfour_at (zAY.from (h.below s) (k:=4) (by omega) (c-4)) (by rw[List.length_drop];omega));have L:=zh (fun(W:World) (s:Below w.heap.size w W)=>zFZ (zAY.cut (h.below s) (k:=4) (by omega) c) (by rw[List.length_take];omega));have ae:∀W,(Instr.slice 22 (.slice (some ⟨g,o,none⟩) b.length c) (some (.int .i64 4)) none none).run prog W=.ok (.slice (some ⟨g,o+4,none⟩) (b.length-4) (c-4)) W:=fun W=>run_from W underlying22 I C g o b.length c 4 (by omega) R (by omega);have af:∀W,(Instr.slice 22 (.slice (some ⟨g,o,none⟩) b.length c) none (some (.int .i64 4)) none).run prog W=.ok (.slice (some ⟨g,o,none⟩) 4 c) W:=fun W=>zB9 W underlying22 I _ _ c 4 (by omega)
  by_cases G:fourAt (b.drop 4)=sumN (b.take 4)
  ·have f:=(head_iff (b:=b) (by omega)).2 G;have ac:((fourAt (b.drop 4):Int) != sumF (b.take 4))=false:=by rw[zDM];simp;omega
   have S:=zh (fun(W:World) (s:Below w.heap.size w W)=>rfour_at (h.below s) (by omega))
   by_cases T:1048576<fourAt b
   ·have d:=zh (fun W=>zBb (w:=w) (w':=W) (b:=b) (k:=5) (by unfold decE;rw[if_neg H,if_neg (by simpa using f),if_pos T]) (by decide));have Q:=zDZ b;generalize fourAt (b.drop 4)=x at *;generalize sumF (b.take 4)=y at *;generalize fourAt b=z at *;generalize b.length=N at *;clear h G f
    go_enter func165,ntmps165
    go_wp2_with fail
    go_quiet ((first|(go_at_call 197;refine zCx (J.o _ (zAs _ _)))|(go_at_call 184;refine Calls.quiet_of_same (L.o _ (zAs _ _)))))
    go_wp2_with fail;refine(S.o _ (zAs _ _)).mono ?_;rintro e w2 ⟨rfl,q2,rfl⟩;go_wp2_with fail
    go_ret3
    exact d.o _ (zAs _ _)
   ·by_cases Z:b.length<fourAt b+12
    ·have d:=zh (fun W=>zBb (w:=w) (w':=W) (b:=b) (k:=2) (by unfold decE;rw[if_neg H,if_neg (by simpa using f),if_neg T,if_pos Z]) (by decide));have Q:=zDZ b;generalize fourAt (b.drop 4)=x at *;generalize sumF (b.take 4)=y at *;generalize fourAt b=z at *;generalize b.length=N at *;clear h G f
     go_enter func165,ntmps165
     go_wp2_with fail
     go_quiet ((first|(go_at_call 197;refine zCx (J.o _ (zAs _ _)))|(go_at_call 184;refine Calls.quiet_of_same (L.o _ (zAs _ _)))))
     go_wp2_with fail;refine(S.o _ (zAs _ _)).mono ?_;rintro e w2 ⟨rfl,q2,rfl⟩;go_wp2_with fail
     go_ret3
     exact d.o _ (zAs _ _)
    ·have Q:=zDZ b;have H8:=zh (fun(W:World) (s:Below w.heap.size w W)=>rfour_at (zAY.from (h.below s) (k:=8+fourAt b) (by omega) (c-(8+fourAt b))) (by rw[List.length_drop];omega));have M:=zh (fun(W:World) (s:Below w.heap.size w W)=>zFZ (zAY.cut (h.below s) (k:=8+fourAt b) (by omega) c) (by rw[List.length_take];omega));have V:=zW (∀W,Below w.heap.size w W→zAM W 1 (.slice (some ⟨g,o+8,none⟩) (fourAt b) (c-8)) (fourAt b) (zAQ ((b.drop 8).take (fourAt b)))) (fun W s=>by
      have X:=zAY.cut (zAY.from (h.below s) (k:=8) (by omega) (c-8)) (k:=fourAt b) (by rw[List.length_drop];omega) (c-8);unfold zAY at X;rw[List.length_take,List.length_drop,Nat.min_eq_left (by omega)]at X;exact X)
     have ag:∀W,(Instr.slice 22 (.slice (some ⟨g,o,none⟩) b.length c) (some (.int .i64 (8+(fourAt b:Int)))) none none).run prog W=.ok (.slice (some ⟨g,o+(8+fourAt b),none⟩) (b.length-(8+fourAt b)) (c-(8+fourAt b))) W:=fun W=>by
      have:=run_from (P:=prog) W underlying22 I C g o b.length c (8+fourAt b) (by omega) R (by omega);rwa[show((8+fourAt b:Nat):Int)=8+(fourAt b:Int) by omega]at this
     have ah:∀W,(Instr.slice 22 (.slice (some ⟨g,o,none⟩) b.length c) none (some (.int .i64 (8+(fourAt b:Int)))) none).run prog W=.ok (.slice (some ⟨g,o,none⟩) (8+fourAt b) c) W:=fun W=>by
      have:=zB9 (P:=prog) W underlying22 I (some ⟨g,o,none⟩) b.length c (8+fourAt b) (by omega);rwa[show((8+fourAt b:Nat):Int)=8+(fourAt b:Int) by omega]at this
     have ai:∀W,(Instr.slice 22 (.slice (some ⟨g,o,none⟩) b.length c) (some (.int .i64 8)) (some (.int .i64 (8+(fourAt b:Int)))) none).run prog W=.ok (.slice (some ⟨g,o+8,none⟩) (fourAt b) (c-8)) W:=fun W=>by
      have:=run_window (P:=prog) W 22 5 underlying22 (fun w=>by simp[sizeOf,typeInfo,I,C]) g o b.length c 8 (8+fourAt b) (by omega) (by omega) (by omega);rwa[show((8+fourAt b:Nat):Int)=8+(fourAt b:Int) by omega,Nat.add_sub_cancel_left]at this
     have aj:IntKind.i64.wrap (8+(fourAt b:Int))=8+(fourAt b:Int):=IntWalk.i64_in _ ⟨by omega,by omega⟩;have ab:IntKind.i64.wrap (12+(fourAt b:Int))=12+(fourAt b:Int):=IntWalk.i64_in _ ⟨by omega,by omega⟩
     by_cases U:fourAt (b.drop (8+fourAt b))=sumN (b.take (8+fourAt b))
     ·have Y:decE b=0:=by unfold decE;rw[if_neg H,if_neg (by simpa using f),if_neg T,if_neg Z,if_neg (by simpa using U)]
      have d:=zW (∀v W,OwnR W 5 1 v (fourAt b) (zAQ ((b.drop 8).take (fourAt b)))→(∀k,v.ownBlock=some k→w.heap.size≤k)→Below w.heap.size w W→zEJ w b (.returned (.tuple #[v,.int .i64 (12+(fourAt b:Int)),.int .i64 0])) W) (fun v W ho hn s =>
       ⟨v,by unfold decL;rw[Y,if_pos rfl,show((fourAt b+12:Nat):Int)=12+(fourAt b:Int) by omega];rfl,by
        unfold decB;rw[if_pos Y];unfold zAj;rw[List.length_take,List.length_drop,Nat.min_eq_left (by omega)];exact ho,hn,s⟩)
      have O:((fourAt (b.drop (8+fourAt b)):Int) != sumF (b.take (8+fourAt b)))=false:=by rw[zDM];simp;omega
      generalize fourAt (b.drop (8+fourAt b))=x2 at *;generalize sumF (b.take (8+fourAt b))=y2 at *;generalize fourAt (b.drop 4)=x at *;generalize sumF (b.take 4)=y at *;generalize hz:fourAt b=z at *;generalize b.length=N at *;clear h G f U Y hz
      go_enter func165,ntmps165
      go_wp2_with fail
      go_quiet ((first|(go_at_call 197;refine zCx (J.o _ (zAs _ _)))|(go_at_call 184;refine Calls.quiet_of_same (L.o _ (zAs _ _)))))
      go_wp2_with fail;refine(S.o _ (zAs _ _)).mono ?_;rintro e w2 ⟨rfl,q2,t⟩;have q:=zh (show Below w.heap.size w w2 by rw[t];exact zDk (zAs _ _) _);clear t;go_wp2_with fail
      go_quiet ((first|(go_at_call 197;refine zCx (H8.o _ (zDk q.o _)))|(go_at_call 184;refine Calls.quiet_of_same (M.o _ (zDk q.o _)))))
      have a:=zh (zDk q.o nq);generalize w2.drewN nq=w5 at *;have A:=zh (a.o.alloc a.o.size (.cells #[] 5));go_wp2_with (at_builtin;refine zAP (w5.alloc (.cells #[] 5)) rfl (.tmp 37) (.tmp 41) 22 rfl 5 i0 (.int .u8 0) 1 1 underlying22 I K C aa rfl (by decide) (.slice (some ⟨w5.heap.size,0,none⟩) 0 0) 0 [] rfl (zAx w5 _) (.slice (some ⟨g,o+8,none⟩) z (c-8)) z _ rfl (V.o _ A.o) (zAO _) (by unfold maxLen;omega) (by omega) ?_;intro ak al l m r;rw[Nat.zero_add,List.nil_append]at l;have hX:=A.o.grown m A.o.size (fun j e=>by have:=a.o.size;simp[Value.ownBlock]at e;omega);have D:=zA2 (B:=w.heap.size) r (fun k hk=>by have:=a.o.size;simp[Value.ownBlock]at hk;omega) A.o.size;have F:=zh (And.intro hX (And.intro l D));clear l m r hX D)
      go_ret3
      exact d.o _ _ F.o.2.1 F.o.2.2 F.o.1
     ·have d:=zh (fun W=>zBb (w:=w) (w':=W) (b:=b) (k:=4) (by unfold decE;rw[if_neg H,if_neg (by simpa using f),if_neg T,if_neg Z,if_pos U]) (by decide));have O:((fourAt (b.drop (8+fourAt b)):Int) != sumF (b.take (8+fourAt b)))=true:=by rw[zDM];simp;omega
      generalize fourAt (b.drop (8+fourAt b))=x2 at *;generalize sumF (b.take (8+fourAt b))=y2 at *;generalize fourAt (b.drop 4)=x at *;generalize sumF (b.take 4)=y at *;generalize fourAt b=z at *;generalize b.length=N at *;clear h G f U
      go_enter func165,ntmps165
      go_wp2_with fail
      go_quiet ((first|(go_at_call 197;refine zCx (J.o _ (zAs _ _)))|(go_at_call 184;refine Calls.quiet_of_same (L.o _ (zAs _ _)))))
      go_wp2_with fail;refine(S.o _ (zAs _ _)).mono ?_;rintro e w2 ⟨rfl,q2,t⟩;have q:=zh (show Below w.heap.size w w2 by rw[t];exact zDk (zAs _ _) _);clear t;go_wp2_with fail
      go_quiet ((first|(go_at_call 197;refine zCx (H8.o _ (zDk q.o _)))|(go_at_call 184;refine Calls.quiet_of_same (M.o _ (zDk q.o _)))))
      go_wp2_with fail
      go_ret3
      exact d.o _ (zDk q.o _)
  ·have d:=zh (fun W=>zBb (w:=w) (w':=W) (b:=b) (k:=4) (by unfold decE;rw[if_neg H,if_pos (fun e=>G ((head_iff (by omega)).1 e))]) (by decide));have ad:((fourAt (b.drop 4):Int) != sumF (b.take 4))=true:=by rw[zDM];simp;omega
   generalize fourAt (b.drop 4)=x at *;generalize sumF (b.take 4)=y at *;generalize b.length=N at *;clear h G
   go_enter func165,ntmps165
   go_wp2_with fail
   go_quiet ((first|(go_at_call 197;refine zCx (J.o _ (zAs _ _)))|(go_at_call 184;refine Calls.quiet_of_same (L.o _ (zAs _ _)))))
   go_wp2
   go_ret3
   exact d.o _ (zAs _ _)
theorem rone_calls {w:World}{p:Option Addr}{n c:Nat}{b:Bs}(h:zAY w (.slice p n c) b)(r:n≤c)(z:b.length≤140737488355328) :
  Calls prog 162 #[.slice p n c] w (OneOf w b):=by
 have hn:n=b.length:=(zCc h).1;subst hn;have y:=zh (rdec_calls h r z);have q:decL b≤4294967307:=by
  have:=zDZ b;unfold decL
  split<;>omega
 clear h
 go_enter func162,ntmps162
 go_wp2_with fail;refine y.o.mono ?_;rintro e w1 ⟨v,rfl,m,g,f⟩
 by_cases i:decE b=0
 ·by_cases l:decL b=b.length
  ·have j:oneE b=0:=by unfold oneE;rw[if_pos i,if_pos l]
   have d:=zW (OneOf w b (.returned (.tuple #[v,.int .i64 0])) w1) (⟨v,by rw[j];rfl,by unfold oneB;rw[if_pos j];exact m,g,f⟩);rw[i,l];generalize b.length=N at *;clear m g f i l j q;go_wp2_with fail
   go_ret2
   exact d.o
  ·have d:=zh (one_nil (w:=w) (w':=w1) (b:=b) (k:=3) (by unfold oneE;rw[if_pos i,if_neg l]) (by decide) f);have s:((decL b:Int) != (b.length:Int))=true:=by
    simp only[bne_iff_ne,ne_eq,Int.natCast_inj];exact l
   rw[i];generalize decL b=M at *;generalize b.length=N at *;clear m g f i l;go_wp2_with fail
   go_ret2
   exact d.o
 ·have j:oneE b=decE b:=by unfold oneE;rw[if_neg i]
  have d:=zh (one_nil (w:=w) (w':=w1) (b:=b) (k:=decE b) j i f);have s:((decE b:Int)==0)=false:=by simp;omega
  have t:((decE b:Int) != 0)=true:=by simp;omega
  generalize decE b=E at *;generalize decL b=M at *;generalize b.length=N at *;clear m g f j;go_wp2_with fail
  go_ret2
  exact d.o
end Go.Proofs.YtapfnehdgailmaaGreat

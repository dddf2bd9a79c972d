/- What the program's functions and the document's do, and plain laws, for PJournalKept. -/
import Derived.Test.YtapfnehdgailmaaGreatMA
import Derived.Test.YtapfnehdgailmaaGreatMC
import Derived.Test.YtapfnehdgailmaaGreatME
import Derived.Test.YtapfnehdgailmaaGreatMJ
open Go.Proofs.Tryz
set_option maxRecDepth 100000
set_option maxHeartbeats 64000000
namespace Go.Proofs.YtapfnehdgailmaaGreat
open Go.RowKit Go.Sat Go.Maps
theorem ris_calls {w:World}{e:Ent}{v:EV}(h:zBS w e v) :
  Calls prog 43 #[zDx e v] w fun r w'=>r=.returned (.bool (zAt e))∧Below w.heap.size w w':=by
 obtain⟨t,k,i,f⟩:=e;obtain⟨C,v2⟩:=v;have J:=zAC w (.cells #[.int .i64 t,.int .i64 k,C,v2] 50);have W:=zW (Calls prog 36 #[v2] (w.alloc (.cells #[.int .i64 t,.int .i64 k,C,v2] 50)) fun e w'=>e=.returned (.bool (zAX f))∧∃q,w'=(w.alloc (.cells #[.int .i64 t,.int .i64 k,C,v2] 50)).drewN q) (by
  have hn:=(h.below J).nodes;obtain⟨p,c,hv⟩:=hn.slice;have R:v2=.slice p f.length c:=hv;subst R;exact zC7 hn h.nl)
 have g:=zh J;have P:=h.dl;have Q:=h.nl;obtain⟨p1,X,U⟩:=h.data.slice;obtain⟨p2,Y,V⟩:=h.nodes.slice;have H:C=.slice p1 i.length X:=U;have I:v2=.slice p2 f.length Y:=V;subst H;subst I;clear U V h J;dsimp only at P Q;have D:=zh (ent_zero (e:=⟨t,k,i,f⟩));have E:=zh (ent_one (e:=⟨t,k,i,f⟩));have F:=zh (ent_two (e:=⟨t,k,i,f⟩));have S:=zh (ent_none (e:=⟨t,k,i,f⟩));have G:=zW (zDG t=false→zAt ⟨t,k,i,f⟩=false) (fun h=>by unfold zAt;rw[h,Bool.false_and]);unfold zDx;dsimp only at D E F S ⊢;generalize zAt ⟨t,k,i,f⟩=aa at *
 by_cases a:0≤t∧t≤1099511627776
 rotate_left
 ·have d:=zh (G.o (by unfold zDG;rw[decide_eq_false a]))
  by_cases A:t<0
  ·have T:decide (t<0)=true:=decide_eq_true A
   go_enter func43,ntmps43
   go_wp2_with fail;go_ret;exact⟨by rw[d.o];rfl,g.o⟩
  ·have T:decide (t<0)=false:=decide_eq_false A;have Z:decide (1099511627776<t)=true:=decide_eq_true (by omega)
   go_enter func43,ntmps43
   go_wp2_with fail;go_ret;exact⟨by rw[d.o];rfl,g.o⟩
 ·have B:zDG t=true:=by unfold zDG;rw[decide_eq_true a]
  have T:decide (t<0)=false:=decide_eq_false (by omega);have Z:decide (1099511627776<t)=false:=decide_eq_false (by omega);rw[B]at D E F;clear B
  by_cases j:k=0
  ·have d:=zh (D.o j);have L:(k==0)=true:=by simpa using j
   clear j a;generalize i.length=n at *;generalize f.length=m at *
   by_cases hn:n=0
   focus
    have s:((n:Int)==0)=true:=by simp;omega
    have b:decide (n=0∧m=0)=((m:Int)==0):=by rw[Bool.eq_iff_iff];simp;omega
   rotate_left
   focus
    have s:((n:Int)==0)=false:=by simp;omega
    have b:decide (n=0∧m=0)=false:=by simp;omega
   all_goals
    rw[b]at d;clear hn b;go_enter func43,ntmps43;go_wp2_with fail;go_ret;exact⟨by rw[d.o];simp,g.o⟩
  ·have L:(k==0)=false:=by simpa using j
   by_cases l:k=1
   ·have d:=zh (E.o l);have M:(k==1)=true:=by simpa using l
    clear j a l;generalize i.length=n at *;generalize f.length=m at *
    by_cases hn:1≤n
    ·by_cases K:n≤65536
     focus
      have z:decide ((1:Int)≤(n:Int))=true:=by simp;omega
      have O:decide ((n:Int)≤65536)=true:=by simp;omega
      have b:decide (1≤n∧n≤65536∧m=0)=((m:Int)==0):=by rw[Bool.eq_iff_iff];simp;omega
     rotate_left
     focus
      have z:decide ((1:Int)≤(n:Int))=true:=by simp;omega
      have O:decide ((n:Int)≤65536)=false:=by simp;omega
      have b:decide (1≤n∧n≤65536∧m=0)=false:=by simp;omega
     all_goals
      rw[b]at d;clear b;go_enter func43,ntmps43;go_wp2_with fail;go_ret;exact⟨by rw[d.o];simp,g.o⟩
    ·have z:decide ((1:Int)≤(n:Int))=false:=by simp;omega
     have b:decide (1≤n∧n≤65536∧m=0)=false:=by simp;omega
     rw[b]at d;clear b
     go_enter func43,ntmps43
     go_wp2_with fail;go_ret;exact⟨by rw[d.o];simp,g.o⟩
   ·have M:(k==1)=false:=by simpa using l
    by_cases y:k=2
    ·have d:=zh (F.o y);have N:(k==2)=true:=by simpa using y
     clear j a l y;generalize i.length=n at *;generalize f.length=m at *
     by_cases hn:n=0
     ·have s:((n:Int)==0)=true:=by simp;omega
      have b:decide (n=0)=true:=by simpa using hn
      rw[b]at d;clear hn b
      go_enter func43,ntmps43
      go_wp2_with fail;refine W.o.mono ?_;rintro e w' ⟨rfl,q,rfl⟩;go_wp2_with fail;go_ret;exact⟨by rw[d.o];simp,g.o.trans ⟨rfl,rfl,rfl,Nat.le_refl _,fun _ _=>rfl⟩⟩
     ·have s:((n:Int)==0)=false:=by simp;omega
      have b:decide (n=0)=false:=by simpa using hn
      rw[b]at d;clear hn b
      go_enter func43,ntmps43
      go_wp2_with fail;go_ret;exact⟨by rw[d.o];simp,g.o⟩
    ·have N:(k==2)=false:=by simpa using y
     have d:=zh (S.o j l y);clear j l y
     go_enter func43,ntmps43
     go_wp2_with fail;go_ret;exact⟨by rw[d.o];rfl,g.o⟩
theorem xor_range (a b:Int)(c:0≤a)(d:a<4294967296)(f:0≤b)(g:b<4294967296):0≤bits .xor .u32 a b∧bits .xor .u32 a b<4294967296:=by
 rw[u32_xor a b c d f g];have:a.toNat ^^^ b.toNat<2 ^ 32:=Nat.xor_lt_two_pow (by omega) (by omega);omega
theorem and_one (z:Int)(b:0≤z)(c:z<4294967296):bits .and .u32 z 1=0∨bits .and .u32 z 1=1:=by
 rw[u32_and z 1 b c (by decide) (by decide)];have:z.toNat &&& (1:Int).toNat=z.toNat%2:=Nat.and_one_is_mod _;rw[this];omega
theorem bitF_one {z:Int}(h:bits .and .u32 z 1=1):bitF z=bits .xor .u32 (z/2) 3988292384:=by
 unfold bitF;rw[h]
 congr 1
theorem bitF_zero {z:Int}(b:0≤z)(c:z<4294967296)(h:bits .and .u32 z 1=0):bitF z=z/2:=by
 unfold bitF;rw[h];have e:bits .and .u32 3988292384 (-0%4294967296)=0:=by decide
 rw[e,u32_xor (z/2) 0 (by omega) (by omega) (by decide) (by decide)];have:(z/2).toNat ^^^ (0:Int).toNat=(z/2).toNat:=Nat.xor_zero _;rw[this];omega
theorem bitF_range {z:Int}(b:0≤z)(c:z<4294967296):0≤bitF z∧bitF z<4294967296:=by
 rcases and_one z b c with h|h
 ·rw[bitF_zero b c h];omega
 ·rw[bitF_one h];exact xor_range _ _ (by omega) (by omega) (by decide) (by decide)
theorem zEU {z:Int}(b:0≤z)(c:z<4294967296):∀k,0≤zGG k z∧zGG k z<4294967296
 | 0=>⟨b,c⟩
 | k+1=>bitF_range (zEU b c k).1 (zEU b c k).2
theorem byteF_range {z:Int}(b:0≤z)(d:z<4294967296)(c:UInt8):0≤byteF z c∧byteF z c<4294967296:=by
 have f:c.toNat<256:=c.toNat_lt;have:=xor_range z (c.toNat:Int) b d (by omega) (by omega);exact zEU this.1 this.2 8
theorem rowF_range {z:Int}(b:0≤z)(d:z<4294967296)(l:Bs):0≤rowF z l∧rowF z l<4294967296:=by
 induction l generalizing z with
 | nil=>exact⟨b,d⟩
 | cons c r ih=>exact ih (byteF_range b d c).1 (byteF_range b d c).2
theorem zFV {w:World}{p:Option Addr}{m c:Nat}{l:Bs}(G:zAY w (.slice p m c) l)(P:l.length≤140737488355328) :
  Calls prog 184 #[.slice p m c] w (fun e w'=>e=.returned (.int .u32 (sumF l))∧w'=w):=by
 have I:m=l.length:=(zCc G).1;have A:=zh G.at
 have C:=zh I.symm;have R:m≤140737488355328:=by omega
 clear G I P
 go_enter func184,ntmps184
 go_wp2_with fail
 go_loop [3,4] (fun v i=>∃j:Nat,j≤m∧i=.int .i64 j∧v=.int .u32 (rowF 4294967295 (l.take j))) (fun _ i=>m-(intOf i).toNat)
 case atStart=>exact⟨0,Nat.zero_le _,rfl,rfl⟩
 case round =>
  obtain⟨j,U,rfl,rfl⟩:=hrel
  by_cases E:j<m
  ·have b:j<l.length:=by rw[C.o];exact E
   have B:=zh (rowF_take 4294967295 l b);rcases A.o with h|⟨S,W,T,H,r⟩
   ·rw[h]at b;simp at b
   rw[C.o]at H;cases H;have M:=r j _ (List.getElem?_eq_getElem b);have t:=rowF_range (z:=4294967295) (by decide) (by decide) (l.take j);generalize l[j]=k at *;generalize rowF 4294967295 (l.take j)=y at *;have N:k.toNat<256:=k.toNat_lt;clear r;go_wp2_with fail;have J:=zW (byteF y k=zGG 8 (bits .xor .u32 y (k.toNat:Int))) rfl;have f:=xor_range y (k.toNat:Int) t.1 t.2 (by omega) (by omega);generalize bits .xor .u32 y (k.toNat:Int)=a at *
   go_loop [3,5] (fun v i=>∃q:Nat,q≤8∧i=.int .i64 q∧v=.int .u32 (zGG q a)) (fun _ i=>8-(intOf i).toNat)
   case atStart=>exact⟨0,Nat.zero_le _,rfl,rfl⟩
   case round =>
    obtain⟨q,V,rfl,rfl⟩:=hrel
    by_cases Q:q<8
    ·have n:=zW (zGG (q+1) a=bitF (zGG q a)) rfl;have d:=zEU f.1 f.2 q;generalize zGG q a=z at *;rcases and_one z d.1 d.2 with D|D
     focus have g:=zh (bitF_zero d.1 d.2 D)
     rotate_left
     focus have g:=zh (bitF_one D)
     all_goals
      go_wp2_with fail;go_round;case rel=>exact⟨q+1,by omega,by go_num,by rw[n.o,g.o]⟩
      case measure=>simp[intOf];omega
    ·have F:q=8:=by omega
     subst F;go_wp2_with fail
     go_round
     case rel=>exact⟨j+1,by omega,by go_num,by rw[B.o,J.o]⟩
     case measure=>simp[intOf];omega
  ·have O:j=m:=by omega
   have s:l.take j=l:=List.take_of_length_le (by rw[C.o];omega);rw[s];clear s;have L:=zW (sumF l=bits .xor .u32 IntKind.u32.max (rowF 4294967295 l)) rfl;generalize rowF 4294967295 l=x at *;go_wp2_with fail;go_ret;exact⟨by rw[L.o];rfl,rfl⟩
def NewO (w:World)(l:Bs)(e:Ending)(w':World):Prop:=∃v,e=.returned v∧zAk w' 5 v l∧(∀k,v.ownBlock=some k→w.heap.size≤k)∧Below w.heap.size w w'
theorem own_lit {w:World}(cs:Array Value)(l:Bs)(e:TypeId)(h:cs.toList=zAQ l)(n:Nat)(hn:n=l.length)(b:n≤maxLen):zAk (w.alloc (.cells cs e)) e (.slice (some ⟨w.heap.size,0,none⟩) n n) l:=by
 subst hn;refine⟨by rw[zFG,Nat.mul_one],.inr ⟨_,_,cs,rfl,zAJ w _,Nat.le_refl _,?_,?_,?_⟩⟩
 ·exact b
 ·have:=congrArg List.length h;rw[zFG]at this;simpa using Nat.le_of_eq this.symm
 ·rw[h,←zFG l,Nat.mul_one,List.take_length]
theorem zFq {w:World}(v:Nat)(l:v<4294967296) :
  Calls prog 183 #[.int .u32 (v:Int)] w (NewO w (zA1 v)):=by
 have b:NewO w (zA1 v) (.returned (.slice (some ⟨w.heap.size,0,none⟩) 4 4)) (w.alloc (.cells #[.int .u8 ((v:Int)%256),.int .u8 ((v:Int)/256%256),.int .u8 ((v:Int)/65536%256),.int .u8 ((v:Int)/16777216)] 5)) :=
  ⟨_,rfl,own_lit _ (zA1 v) _ (by
   simp only[zA1,zAQ,List.map_cons,List.map_nil,UInt8.toNat_ofNat'];have d:(v:Int)/16777216=((v/16777216%256:Nat):Int):=by omega
   have f:(v:Int)%256=((v%256:Nat):Int):=by omega
   have g:(v:Int)/256%256=((v/256%256:Nat):Int):=by omega
   have i:(v:Int)/65536%256=((v/65536%256:Nat):Int):=by omega
   rw[d,f,g,i]) 4 rfl (by decide),fun k j=>(by cases j;exact Nat.le_refl _),(Below.refl _ _).alloc (Nat.le_refl _) _⟩
 have c:=zh b;clear b
 go_enter func183,ntmps183
 go_wp2_with fail;go_ret;exact c.o
theorem rfromFour_calls {w:World}{b o n c:Nat}{d f g i:UInt8}(hn:4≤n)(s:w.cell? ⟨b,o,none⟩=some (.int .u8 (d.toNat:Int)))(t:w.cell? ⟨b,o+1,none⟩=some (.int .u8 (f.toNat:Int)))
  (v:w.cell? ⟨b,o+2,none⟩=some (.int .u8 (g.toNat:Int))) (y:w.cell? ⟨b,o+3,none⟩=some (.int .u8 (i.toNat:Int))) :
  Calls prog 197 #[.slice (some ⟨b,o,none⟩) n c] w (fun e w'=>e=.returned (.int .u32 (ofFour d f g i:Int))∧∃q,w'=w.drewN q):=by
 have k:=d.toNat_lt;have l:=f.toNat_lt;have m:=g.toNat_lt;have p:=i.toNat_lt;have z:(0:Int)<(n:Int):=by omega
 have a:(1:Int)<(n:Int):=by omega
 have h:(2:Int)<(n:Int):=by omega
 have A:(3:Int)<(n:Int):=by omega
 have hF:=or_four k l m p;have j:=zW (bits .or .u32 (bits .or .u32 (bits .or .u32 (d.toNat:Int) ((f.toNat:Int)*256)) ((g.toNat:Int)*65536)) ((i.toNat:Int)*16777216)=(ofFour d f g i:Int)) hF;clear hF;generalize ofFour d f g i=r at *;generalize d.toNat=B at *;generalize f.toNat=C at *;generalize g.toNat=D at *;generalize i.toNat=E at *
 go_enter func197,ntmps197
 go_wp2_with fail
 go_quiet (fail)
 go_wp2
 go_ret;exact⟨by rw[←j.o];rfl,_,rfl⟩
theorem rfour_at {w:World}{p:Option Addr}{n c:Nat}{b:Bs}(h:zAY w (.slice p n c) b)(j:4≤b.length) :
  Calls prog 197 #[.slice p n c] w (fun e w'=>e=.returned (.int .u32 (fourAt b:Int))∧∃q,w'=w.drewN q):=by
 have k:=h.at
 obtain⟨s,m,e⟩:=h.slice;cases e;rcases k with e|⟨g,o,r,e,f⟩
 ·rw[e]at j;simp at j
 ·cases e;have d:∀i,i<b.length→b[i]?=some (b.getD i 0):=fun i l=>by simp[List.getD,List.getElem?_eq_getElem l]
  exact rfromFour_calls j (by simpa using f 0 _ (d 0 (by omega))) (f 1 _ (d 1 (by omega))) (f 2 _ (d 2 (by omega))) (f 3 _ (d 3 (by omega)))
theorem ownB_keep {w w':World}{v:Value}{l:Bs}(h:zAk w 5 v l)(b:Below w.heap.size w w'):zAk w' 5 v l:=zAk.keep h fun k c=>b.block k (OwnR.lt h c)
theorem renc_calls {w:World}{p:Option Addr}{m c:Nat}{l:Bs}(hx:zAY w (.slice p m c) l)(hl:l.length≤1048576) :
  Calls prog 132 #[.slice p m c] w fun e w'=>∃v,e=.returned (.tuple #[v,.int .i64 0])∧zAk w' 5 v (zAK l)∧(∀k,v.ownBlock=some k→w.heap.size≤k)∧Below w.heap.size w w':=by
 have ae:m=l.length:=(zCc hx).1;have hm:m≤1048576:=by omega
 have Hx:=zh hx;have I:=zh ae;have aj:=zh (zFq (w:=w) m (by omega));obtain⟨i0,hi,V,X,Z⟩:=info_parts (show(prog.info? 5).map (fun i=>(i.zero,i.size,i.bytes))=some (some (.int .u8 0),1,1) by kernel_rfl);clear hx ae hl
 go_enter func132,ntmps132
 go_wp2_with fail;refine aj.o.mono ?_;rintro e w1 ⟨v1,rfl,M,af,ac⟩;obtain⟨p1,c1,rfl⟩:=OwnR.shape M;have A:=zh (And.intro M (And.intro af ac));have ao:=zh (zFV (p:=p1) (m:=4) (c:=c1) M.has (by rw[show(zA1 m).length=4 from rfl];decide));rw[show(zA1 m).length=4 from rfl];clear M af ac;go_wp2_with fail;refine ao.o.mono ?_;rintro e w2 ⟨rfl,rfl⟩;rw[zDI];have ak:=zh (zFq (w:=w2) (sumN (zA1 m)) (zFu _));have ad:zCH l.length=zA1 m++zA1 (sumN (zA1 m)):=by rw[←I.o];rfl
 have an:=zh ad;generalize sumN (zA1 m)=q at *;clear ad;go_wp2_with fail;refine ak.o.mono ?_;rintro e w3 ⟨v2,rfl,U,au,T⟩;obtain⟨p2,c2,rfl⟩:=OwnR.shape U;have X3:=zh (A.o.2.2.trans (T.mono A.o.2.2.size));have H:OwnR w3 5 1 (.slice p1 4 c1) 4 (zAQ (zA1 m)):=ownB_keep A.o.1 T;have Q:=zh H;have H2:=zW (zAM w3 1 (.slice p2 4 c2) 4 (zAQ (zA1 q))) U.has;have aq:=zW (∀W,Below w.heap.size w W→zAM W 1 (.slice p m c) m (zAQ l)) (fun W hb=>by
  have h:=Hx.o.below hb;unfold zAY at h;rw[←I.o]at h;exact h)
 rw[show(zA1 q).length=4 from rfl];clear U au T H;go_wp2_with (first|(at_builtin;refine zAP w3 rfl (.tmp 12) (.tmp 15) 22 rfl 5 i0 (.int .u8 0) 1 1 underlying22 hi V X Z rfl (by decide) (.slice p1 4 c1) 4 _ rfl Q.o (.slice p2 4 c2) 4 _ rfl H2.o (zAO _) (by decide) (by decide) ?_;intro aB aw f n y;have P:=X3.o.grown n X3.o.size (fun j e=>A.o.2.1 j e);have d:=zA5 (B:=w.heap.size) y A.o.2.1 X3.o.size;obtain⟨av,ar,rfl⟩:=OwnR.shape f;have t:=zh (And.intro P (And.intro f d));clear f n y P d)|(at_builtin;refine zAP aw rfl (.tmp 17) (.tmp 18) 22 rfl 5 i0 (.int .u8 0) 1 1 underlying22 hi V X Z rfl (by decide) (.slice av 8 ar) 8 _ rfl t.o.2.1 (.slice p m c) m _ rfl (aq.o _ t.o.1) (zAO _) (by unfold maxLen;omega) (by omega) ?_;intro aC ax b r z;have P:=t.o.1.grown r t.o.1.size (fun j e=>t.o.2.2 j e);have d:=zA5 (B:=w.heap.size) z t.o.2.2 t.o.1.size;obtain⟨N,L,rfl⟩:=OwnR.shape b;have C:=zh (And.intro P (And.intro b d));clear b r z P d))
 have F:zAk ax 5 (.slice N (8+m) L) (zCH l.length++l):=by
  unfold zAk;rw[an.o,zBt,zBt,List.length_append,List.length_append,show(zA1 m).length=4 from rfl,show(zA1 q).length=4 from rfl,←I.o];exact C.o.2.1
 have E:(zCH l.length++l).length=8+m:=by rw[List.length_append,zBJ,←I.o]
 have ap:=zh (zFV (p:=N) (m:=8+m) (c:=L) F.has (by rw[E];omega));have aa:=zh F;have O:=zh E;have am:=zW (zAK l=(zCH l.length++l)++zA1 (sumN (zCH l.length++l))) rfl;clear F E;generalize zCH l.length++l=Y at *;refine ap.o.mono ?_;rintro e ay ⟨rfl,rfl⟩;rw[zDI];have al:=zh (zFq (w:=ay) (sumN Y) (zFu _));generalize sumN Y=q2 at *;go_wp2_with fail;refine al.o.mono ?_;rintro e K ⟨aD,rfl,G,ag,D⟩;obtain⟨ah,ab,rfl⟩:=OwnR.shape G;have R:=zh (C.o.1.trans (D.mono C.o.1.size));have b:OwnR K 5 1 (.slice N (8+m) L) (8+m) (zAQ Y):=by
  have h:=ownB_keep aa.o D;unfold zAk at h;rw[O.o]at h;exact h
 have J:=zh b;have ai:=zW (zAM K 1 (.slice ah 4 ab) 4 (zAQ (zA1 q2))) G.has;rw[show(zA1 q2).length=4 from rfl];clear G ag D b;go_wp2_with (at_builtin;refine zAP K rfl (.tmp 20) (.tmp 23) 22 rfl 5 i0 (.int .u8 0) 1 1 underlying22 hi V X Z rfl (by decide) (.slice N (8+m) L) (8+m) _ rfl J.o (.slice ah 4 ab) 4 _ rfl ai.o (zAO _) (by unfold maxLen;omega) (by omega) ?_;intro aE aF g s a;have P:=R.o.grown s R.o.size (fun j e=>C.o.2.2 j e);have d:=zA5 (B:=w.heap.size) a C.o.2.2 R.o.size;obtain⟨aA,az,rfl⟩:=OwnR.shape g;have S:=zh (And.intro P (And.intro g d));clear g s a P d)
 go_ret2
 refine⟨_,rfl,?_,S.o.2.2,S.o.1⟩;unfold zAk;rw[am.o,List.length_append,O.o,show(zA1 q2).length=4 from rfl,zBt];exact S.o.2.1
structure zCm (w W:World)(v:Value)(l:Bs):Prop where
 own:zAk W 5 v l
 new:∀k,v.ownBlock=some k→w.heap.size≤k
 bel:Below w.heap.size w W
theorem zCm.nil (w:World):zCm w w (.slice none 0 0) []:=⟨OwnR.nil _ _ _,fun k b=>(by cases b),Below.refl _ _⟩
theorem zCm.next {w W b:World}{v:Value}{l:Bs}(h:zCm w W v l)(c:Below W.heap.size W b):zCm w b v l:=⟨zCM h.own c,h.new,h.bel.trans (c.mono h.bel.size)⟩
theorem zCm.alloc {w W:World}{v:Value}{l:Bs}(h:zCm w W v l)(o:Obj):zCm w (W.alloc o) v l:=h.next (zAC W o)
theorem zCm.told {w W:World}{v:Value}{l:Bs}(h:zCm w W v l):zBf w l (.returned v) W:=⟨v,rfl,h.own,h.new,h.bel⟩
theorem zCm.grown {w f w3:World}{v d:Value}{l x:Bs}(h:zCm w f v l)(c:OwnR w3 5 1 d (l.length+x.length) (zAQ l++zAQ x))(i:f.grownBy w3 v.ownBlock)(b:d.ownBlock=v.ownBlock∨∃g,d.ownBlock=some g∧f.heap.size≤g):zCm w w3 d (l++x):=by
 refine⟨?_,zA5 b h.new h.bel.size,h.bel.grown i h.bel.size fun j e=>h.new j e⟩
 show OwnR _ _ _ _ (l++x).length (zAQ (l++x))
 rw[List.length_append,show zAQ (l++x)=zAQ l++zAQ x from List.map_append];exact c
theorem or_high2 {a:Nat}(f:a≤4611686018427387904):bits .or .u8 (bits .and .u64 (a:Int) 127%256) 128=(((UInt8.ofNat (a%128+128)).toNat:Nat):Int):=by
 have b:bits .and .u64 (a:Int) 127=((a%128:Nat):Int):=by
  refine(u64_and_nat a 127 (by omega) (by decide)).trans ?_;rw[show(127:Nat)=2 ^ 7-1 from rfl,Nat.and_two_pow_sub_one_eq_mod]
 have c:∀y:Fin 256,(y.val ||| 128)=y.val%128+128:=by decide +kernel
 have d:(a%128 ||| 128)=a%128%128+128:=c ⟨a%128,by omega⟩;rw[b,show((a%128:Nat):Int)%256=((a%128:Nat):Int) by omega];refine(u8_or_nat (a%128) 128 (by omega) (by decide)).trans ?_;rw[d,UInt8.toNat_ofNat'];omega
theorem zEa (w:World)(z:Int)(hz:-9223372036854775808≤z∧z≤9223372036854775807) :
  Calls prog 118 #[.int .i64 z] w (zBf w (zDf z)):=by
 obtain⟨P,O,A,B,C⟩:=info_parts (show(prog.info? 5).map (fun i=>(i.zero,i.size,i.bytes))=some (some (.int .u8 0),1,1) by kernel_rfl);obtain⟨ac,ad⟩:=hz;have L:∀(K:Nat),(K=(max 0 (min z 4611686018427387904)).toNat)→K≤4611686018427387904:=fun K hK=>by omega
 have Y:=zW (zDf z=zD8 (max 0 (min z 4611686018427387904)).toNat) rfl;generalize Z:(max 0 (min z 4611686018427387904)).toNat=N at *;have H:N≤4611686018427387904:=L N rfl;have M:=zh Z;clear L Z
 go_enter func118,ntmps118
 by_cases h1:4611686018427387904<z
 ·have y:N=4611686018427387904:=by have:=M.o;omega
  have F:=zh y;clear y;go_wp2_with fail
  go_loopw [3,4] (fun u b wr=>∃(a:Nat) (cur:Bs) (G:Value),u=.int .u64 a∧G=b∧a≤4611686018427387904∧zCm w wr G cur∧cur++zD8 a=zD8 N) (fun u _ _=>(intOf u).toNat)
  case atStart=>exact⟨4611686018427387904,[],_,rfl,rfl,Nat.le_refl _,zCm.nil w,by rw[F.o];rfl⟩
  case round =>
   obtain⟨a,cur,G,rfl,rfl,Q,t,k⟩:=hrel;have h:=zAg H;rw[←k,List.length_append]at h;have S:=numB_len a;have s:=zh t;have p:=zh k;obtain⟨pv,cv,rfl,-⟩:=zAN t.own;clear t k;generalize I:cur.length=m at *;have E:=zh I;clear I;have q:=zh (show OwnR wr 5 1 (.slice pv m cv) m (zAQ cur) by have:=s.o.own;unfold zAk at this;rwa[E.o]at this)
   by_cases v:128≤a
   ·have r:=zh (zD9 v);have T:=or_high2 Q;generalize UInt8.ofNat (a%128+128)=x at *;go_wp2_with (at_builtin;have j:=zC4 q.o (.cells #[.int .u8 (x.toNat:Int)] 5);have l:=zE0 wr x;refine zAP _ rfl (.tmp 13) (.tmp 18) 22 rfl 5 P (.int .u8 0) 1 1 underlying22 O A B C rfl (by decide) (.slice pv m cv) m _ rfl j (.slice (some ⟨wr.heap.size,0,none⟩) 1 1) 1 _ rfl l (zAO _) (by unfold maxLen;omega) (by omega) ?_;clear j l;intro X w3 c d f;go_loud (have D:=zh (zCm.grown (x:=[x]) (s.o.alloc (.cells #[.int .u8 (x.toNat:Int)] 5)) (by rw[E.o];exact c) d f);clear d f;obtain⟨V,W,rfl⟩:=OwnR.shape c;clear c))
    go_roundw
    case rel=>exact⟨a/128,cur++[x],_,by first|rfl|go_num,rfl,by omega,D.o,by rw[←p.o,r.o];simp⟩
    case measure=>simp[intOf];omega
   ·have g:=zh (zCt (n:=a) (by omega));obtain⟨x,J⟩:∃x:UInt8,a=x.toNat:=⟨UInt8.ofNat a,by rw[UInt8.toNat_ofNat'];omega⟩;rw[show UInt8.ofNat a=x by rw[J];simp]at g;subst J;have U:(x.toNat:Int)%256=(x.toNat:Int):=by omega
    have R:=x.toNat_lt;go_wp2_with (at_builtin;have j:=zC4 q.o (.cells #[.int .u8 (x.toNat:Int)] 5);have l:=zE0 wr x;refine zAP _ rfl (.tmp 22) (.tmp 25) 22 rfl 5 P (.int .u8 0) 1 1 underlying22 O A B C rfl (by decide) (.slice pv m cv) m _ rfl j (.slice (some ⟨wr.heap.size,0,none⟩) 1 1) 1 _ rfl l (zAO _) (by unfold maxLen;omega) (by omega) ?_;clear j l;intro X w3 c d f;go_loud (have D:=zh (zCm.grown (x:=[x]) (s.o.alloc (.cells #[.int .u8 (x.toNat:Int)] 5)) (by rw[E.o];exact c) d f);clear d f;obtain⟨V,W,rfl⟩:=OwnR.shape c;clear c))
    go_ret;have:=D.o.told;rw[Y.o,←p.o,g.o];exact this
 ·by_cases h2:0<z
  ·have ab:IntKind.u64.wrap z=z:=by rw[show IntKind.u64.wrap z=z%18446744073709551616 from rfl];omega
   have aa:z%18446744073709551616=z:=by omega
   have y:z=(N:Int):=by have:=M.o;omega
   have F:=zh y;clear y;go_wp2_with fail
   go_loopw [3,4] (fun u b wr=>∃(a:Nat) (cur:Bs) (G:Value),u=.int .u64 a∧G=b∧a≤4611686018427387904∧zCm w wr G cur∧cur++zD8 a=zD8 N) (fun u _ _=>(intOf u).toNat)
   case atStart=>exact⟨N,[],_,by rw[F.o],rfl,H,zCm.nil w,rfl⟩
   case round =>
    obtain⟨a,cur,G,rfl,rfl,Q,t,k⟩:=hrel;have h:=zAg H;rw[←k,List.length_append]at h;have S:=numB_len a;have s:=zh t;have p:=zh k;obtain⟨pv,cv,rfl,-⟩:=zAN t.own;clear t k;generalize I:cur.length=m at *;have E:=zh I;clear I;have q:=zh (show OwnR wr 5 1 (.slice pv m cv) m (zAQ cur) by have:=s.o.own;unfold zAk at this;rwa[E.o]at this)
    by_cases v:128≤a
    ·have r:=zh (zD9 v);have T:=or_high2 Q;generalize UInt8.ofNat (a%128+128)=x at *;go_wp2_with (at_builtin;have j:=zC4 q.o (.cells #[.int .u8 (x.toNat:Int)] 5);have l:=zE0 wr x;refine zAP _ rfl (.tmp 13) (.tmp 18) 22 rfl 5 P (.int .u8 0) 1 1 underlying22 O A B C rfl (by decide) (.slice pv m cv) m _ rfl j (.slice (some ⟨wr.heap.size,0,none⟩) 1 1) 1 _ rfl l (zAO _) (by unfold maxLen;omega) (by omega) ?_;clear j l;intro X w3 c d f;go_loud (have D:=zh (zCm.grown (x:=[x]) (s.o.alloc (.cells #[.int .u8 (x.toNat:Int)] 5)) (by rw[E.o];exact c) d f);clear d f;obtain⟨V,W,rfl⟩:=OwnR.shape c;clear c))
     go_roundw
     case rel=>exact⟨a/128,cur++[x],_,by first|rfl|go_num,rfl,by omega,D.o,by rw[←p.o,r.o];simp⟩
     case measure=>simp[intOf];omega
    ·have g:=zh (zCt (n:=a) (by omega));obtain⟨x,J⟩:∃x:UInt8,a=x.toNat:=⟨UInt8.ofNat a,by rw[UInt8.toNat_ofNat'];omega⟩;rw[show UInt8.ofNat a=x by rw[J];simp]at g;subst J;have U:(x.toNat:Int)%256=(x.toNat:Int):=by omega
     have R:=x.toNat_lt;go_wp2_with (at_builtin;have j:=zC4 q.o (.cells #[.int .u8 (x.toNat:Int)] 5);have l:=zE0 wr x;refine zAP _ rfl (.tmp 22) (.tmp 25) 22 rfl 5 P (.int .u8 0) 1 1 underlying22 O A B C rfl (by decide) (.slice pv m cv) m _ rfl j (.slice (some ⟨wr.heap.size,0,none⟩) 1 1) 1 _ rfl l (zAO _) (by unfold maxLen;omega) (by omega) ?_;clear j l;intro X w3 c d f;go_loud (have D:=zh (zCm.grown (x:=[x]) (s.o.alloc (.cells #[.int .u8 (x.toNat:Int)] 5)) (by rw[E.o];exact c) d f);clear d f;obtain⟨V,W,rfl⟩:=OwnR.shape c;clear c))
     go_ret;have:=D.o.told;rw[Y.o,←p.o,g.o];exact this
  ·have y:N=0:=by have:=M.o;omega
   have F:=zh y;clear y;go_wp2_with fail
   go_loopw [3,4] (fun u b wr=>∃(a:Nat) (cur:Bs) (G:Value),u=.int .u64 a∧G=b∧a≤4611686018427387904∧zCm w wr G cur∧cur++zD8 a=zD8 N) (fun u _ _=>(intOf u).toNat)
   case atStart=>exact⟨0,[],_,rfl,rfl,by decide,zCm.nil w,by rw[F.o];rfl⟩
   case round =>
    obtain⟨a,cur,G,rfl,rfl,Q,t,k⟩:=hrel;have h:=zAg H;rw[←k,List.length_append]at h;have S:=numB_len a;have s:=zh t;have p:=zh k;obtain⟨pv,cv,rfl,-⟩:=zAN t.own;clear t k;generalize I:cur.length=m at *;have E:=zh I;clear I;have q:=zh (show OwnR wr 5 1 (.slice pv m cv) m (zAQ cur) by have:=s.o.own;unfold zAk at this;rwa[E.o]at this)
    by_cases v:128≤a
    ·have r:=zh (zD9 v);have T:=or_high2 Q;generalize UInt8.ofNat (a%128+128)=x at *;go_wp2_with (at_builtin;have j:=zC4 q.o (.cells #[.int .u8 (x.toNat:Int)] 5);have l:=zE0 wr x;refine zAP _ rfl (.tmp 13) (.tmp 18) 22 rfl 5 P (.int .u8 0) 1 1 underlying22 O A B C rfl (by decide) (.slice pv m cv) m _ rfl j (.slice (some ⟨wr.heap.size,0,none⟩) 1 1) 1 _ rfl l (zAO _) (by unfold maxLen;omega) (by omega) ?_;clear j l;intro X w3 c d f;go_loud (have D:=zh (zCm.grown (x:=[x]) (s.o.alloc (.cells #[.int .u8 (x.toNat:Int)] 5)) (by rw[E.o];exact c) d f);clear d f;obtain⟨V,W,rfl⟩:=OwnR.shape c;clear c))
     go_roundw
     case rel=>exact⟨a/128,cur++[x],_,by first|rfl|go_num,rfl,by omega,D.o,by rw[←p.o,r.o];simp⟩
     case measure=>simp[intOf];omega
    ·have g:=zh (zCt (n:=a) (by omega));obtain⟨x,J⟩:∃x:UInt8,a=x.toNat:=⟨UInt8.ofNat a,by rw[UInt8.toNat_ofNat'];omega⟩;rw[show UInt8.ofNat a=x by rw[J];simp]at g;subst J;have U:(x.toNat:Int)%256=(x.toNat:Int):=by omega
     have R:=x.toNat_lt;go_wp2_with (at_builtin;have j:=zC4 q.o (.cells #[.int .u8 (x.toNat:Int)] 5);have l:=zE0 wr x;refine zAP _ rfl (.tmp 22) (.tmp 25) 22 rfl 5 P (.int .u8 0) 1 1 underlying22 O A B C rfl (by decide) (.slice pv m cv) m _ rfl j (.slice (some ⟨wr.heap.size,0,none⟩) 1 1) 1 _ rfl l (zAO _) (by unfold maxLen;omega) (by omega) ?_;clear j l;intro X w3 c d f;go_loud (have D:=zh (zCm.grown (x:=[x]) (s.o.alloc (.cells #[.int .u8 (x.toNat:Int)] 5)) (by rw[E.o];exact c) d f);clear d f;obtain⟨V,W,rfl⟩:=OwnR.shape c;clear c))
     go_ret;have:=D.o.told;rw[Y.o,←p.o,g.o];exact this
theorem zB5 {w:World}{p:Option Addr}{n c:Nat}{zs:List Int}(J:zBg w (.slice p n c) zs)(V:∀z∈zs,-9223372036854775808≤z∧z≤9223372036854775807)(hl:zs.length≤1099511627776) :
  Calls prog 172 #[.slice p n c] w (zBf w (zAp zs)):=by
 obtain⟨i0,K,M,N,O⟩:=info_parts (show(prog.info? 5).map (fun i=>(i.zero,i.size,i.bytes))=some (some (.int .u8 0),1,1) by kernel_rfl);have hn:zs.length=n:=by obtain⟨_,_,e⟩:=J.slice;simp only[Value.slice.injEq]at e;exact e.2.1.symm
 have A:=zh hn;have X:=zh J;have Y:=zh V;have U:n≤1099511627776:=by omega
 clear J V hl hn
 go_enter func172,ntmps172
 go_wp2_with fail
 go_loopw [3,4] (fun b i wr=>∃(k:Nat) (H:Value),k≤n∧i=.int .i64 k∧H=b∧zCm w wr H (zAp (zs.take k))) (fun _ i _=>n-(intOf i).toNat)
 case atStart=>exact⟨0,_,Nat.zero_le _,rfl,rfl,by rw[List.take_zero];exact zCm.nil w⟩
 case round =>
  obtain⟨k,H,hk,rfl,rfl,f⟩:=hrel
  by_cases I:k<n
  ·have j:k<zs.length:=by rw[A.o];exact I
   rcases(show zBg wr (.slice p n c) zs from zAM.chg X.o (Chg.of_below f.bel) fun _ _=>id).at with h0|⟨b,o,c2,e2,hcell⟩
   ·rw[h0]at j;simp at j
   rw[A.o]at e2;simp only[Value.slice.injEq]at e2;obtain⟨rfl,-,rfl⟩:=e2;have Z:=hcell k _ (List.getElem?_eq_getElem j);have a:=Y.o _ (List.getElem_mem j);have F:=zh (numsI_take j);generalize zs[k]=z at *;have s:=zh (zEa wr z a);have E:=zh f;obtain⟨pv,cv,rfl,-⟩:=zAN f.own;have S:=zA9 (zs.take k);have aa:=zBK z;have T:(zs.take k).length≤n:=by rw[List.length_take,A.o];omega
   clear hcell f j a;go_wp2_with fail;refine s.o.mono ?_;rintro e w2 ⟨x,rfl,q,L,y⟩;have r:=zh (E.o.next y);have D:=zh (zAk.has q);obtain⟨W,P,rfl,-⟩:=zAN q;clear q L y;generalize Q:(zAp (zs.take k)).length=m at *;generalize v:(zDf z).length=B at *;have h:=zh (And.intro Q v);have t:=zh (show OwnR w2 5 1 (.slice pv m cv) m (zAQ (zAp (zs.take k))) by have:=r.o.own;unfold zAk at this;rwa[h.o.1]at this);have G:=zh (show zAM w2 1 (.slice W B P) B (zAQ (zDf z)) by have:=D.o;unfold zAY at this;rwa[h.o.2]at this);clear Q v;go_wp2_with (at_builtin;refine zAP _ rfl (.tmp 11) (.tmp 16) 22 rfl 5 i0 (.int .u8 0) 1 1 underlying22 K M N O rfl (by decide) (.slice pv m cv) m _ rfl t.o (.slice W B P) B _ rfl G.o (zAO _) (by unfold maxLen;omega) (by omega) ?_;intro v3 w3 d g l;go_loud (have C:=zh (zCm.grown (x:=zDf z) r.o (by rw[h.o.1,h.o.2];exact d) g l);clear g l;obtain⟨p3,q3,rfl⟩:=OwnR.shape d;clear d))
   go_roundw
   case rel=>exact⟨k+1,_,by omega,by go_num,rfl,by rw[F.o];exact C.o⟩
   case measure=>simp[intOf];omega
  ·have R:zs.take k=zs:=List.take_of_length_le (by rw[A.o];omega);rw[R]at f;have C:=zh f.told;clear f R;go_wp2_with fail;go_ret;exact C.o
theorem zBp {w:World}{p:Option Addr}{m c:Nat}{l:Bs}(g:zAY w (.slice p m c) l)(d:l.length≤1048576) :
  Calls prog 117 #[.slice p m c] w (zBf w (zAK l)):=by
 have H:=zh (renc_calls g d);clear g d
 go_enter func117,ntmps117
 go_wp2_with fail;refine H.o.mono ?_;rintro e w1 ⟨v,rfl,f,hn,b⟩;have i:=zW (zBf w (zAK l) (.returned v) w1) (⟨v,rfl,f,hn,b⟩);clear f hn b;go_wp2_with fail;go_ret;exact i.o
theorem rowB_lit (w:World)(x:UInt8):zCm w (w.alloc (.cells #[.int .u8 (x.toNat:Int)] 5)) (.slice (some ⟨w.heap.size,0,none⟩) 1 1) [x] :=
 ⟨own_lit #[.int .u8 (x.toNat:Int)] [x] 5 rfl 1 rfl (by decide),fun k b=>by cases b;exact Nat.le_refl _,zAC w _⟩
theorem rterms_calls (w:World)(t v:Int)(ht:-9223372036854775808≤t∧t≤9223372036854775807)(hv:-9223372036854775808≤v∧v≤1099511627776) :
  Calls prog 116 #[.int .i64 t,.int .i64 v] w (zBf w (zAK (zCV t v))):=by
 obtain⟨K,W,N,O,P⟩:=info_parts (show(prog.info? 5).map (fun i=>(i.zero,i.size,i.bytes))=some (some (.int .u8 0),1,1) by kernel_rfl);have hw:IntKind.i64.wrap (v+1)=v+1:=IntWalk.i64_in _ (by omega);have r:=zh (rowB_lit w 2);have Q:=zW ([2]++zAp [t,v+1]=zCV t v) (by simp[zAp,zCV]);have g:=zA9 [t,v+1];have V:=zh g;have Y:(zAp [t,v+1]).length≤18:=by simpa using g
 have s:=zh (zB5 (w:=(w.alloc (.cells #[.int .u8 2] 5)).alloc (.cells #[.int .i64 t,.int .i64 (v+1)] 3)) (p:=some ⟨w.heap.size+1,0,none⟩) (n:=2) (c:=2) (zs:=[t,v+1]) ⟨by simp,some ⟨w.heap.size+1,0,none⟩,2,rfl,fun e=>(by cases e),fun a L i u Z=>by
  cases L;rw[add_zero];refine zAG (by have:=zAJ (w.alloc (.cells #[.int .u8 2] 5)) (.cells #[.int .i64 t,.int .i64 (v+1)] 3);simpa using this) ?_;simpa using Z⟩ (by simp;omega) (by simp))
 clear g
 go_enter func116,ntmps116
 go_wp2_with fail;refine s.o.mono ?_;rintro e w2 ⟨x,rfl,j,M,B⟩;have q:=zh ((r.o.alloc (.cells #[.int .i64 t,.int .i64 (v+1)] 3)).next B);have H:=zh (zAk.has j);obtain⟨T,R,rfl,-⟩:=zAN j;clear j M B;generalize A:(zAp [t,v+1]).length=E at *;have G:=zh A;have h:=zW (OwnR w2 5 1 (.slice (some ⟨w.heap.size,0,none⟩) 1 1) 1 (zAQ [2])) q.o.own;have I:=zh (show zAM w2 1 (.slice T E R) E (zAQ (zAp [t,v+1])) by have:=H.o;unfold zAY at this;rwa[G.o]at this);clear A;go_wp2_with (at_builtin;refine zAP _ rfl (.tmp 5) (.tmp 10) 22 rfl 5 K (.int .u8 0) 1 1 underlying22 W N O P rfl (by decide) (.slice (some ⟨w.heap.size,0,none⟩) 1 1) 1 _ rfl h.o (.slice T E R) E _ rfl I.o (zAO _) (by unfold maxLen;omega) (by omega) ?_;intro v3 w3 b d f;go_loud (have J:=zCm.grown (x:=zAp [t,v+1]) q.o (by rw[G.o];exact b) d f;rw[Q.o]at J;have F:=zh J;have Hr:=zh (zBp (p:=none) (m:=0) (c:=0) (w:=w3) (l:=[]) ⟨rfl,none,0,rfl,fun _=>rfl,fun a L=>by cases L⟩ (by decide));clear d f J;obtain⟨p3,q3,rfl⟩:=OwnR.shape b;clear b))
 have z:=zh (zBp (p:=p3) (m:=1+E) (c:=q3) (l:=zCV t v) (w:=w3) F.o.own.has (by rw[←Q.o,List.length_append,G.o];simp;omega));refine z.o.mono ?_;rintro e w4 ⟨y,rfl,S,D,C⟩;have U:=zW (zBf w (zAK (zCV t v)) (.returned y) w4) (⟨y,rfl,S,fun k X=>Nat.le_trans F.o.bel.size (D k X),F.o.bel.trans (C.mono F.o.bel.size)⟩);clear S D C;go_wp2_with fail;go_ret;exact U.o
theorem zC6 {w:World}{p:Option Addr}{n c:Nat}{l:List Int}(a:zBg w (.slice p n c) l)(G:∀z∈l,-9223372036854775808≤z∧z≤9223372036854775807)(O:l.length≤1073741824) :
  Calls prog 173 #[.slice p n c] w (zBf w (zDq l)):=by
 obtain⟨Q,M,A,B,C⟩:=info_parts (show(prog.info? 3).map (fun i=>(i.zero,i.size,i.bytes))=some (some (.int .i64 0),1,8) by kernel_rfl);have hn:l.length=n:=by obtain⟨_,_,e⟩:=a.slice;simp only[Value.slice.injEq]at e;exact e.2.1.symm
 have m:=zW (OwnR (w.alloc (.cells #[.int .i64 (n:Int)] 3)) 3 1 (.slice (some ⟨w.heap.size,0,none⟩) 1 1) 1 [.int .i64 (n:Int)]) (⟨rfl,.inr ⟨w.heap.size,1,#[.int .i64 (n:Int)],rfl,zAJ w _,Nat.le_refl _,by decide,Nat.le_refl _,rfl⟩⟩);have v:=zW (zAM (w.alloc (.cells #[.int .i64 (n:Int)] 3)) 1 (.slice p n c) n (l.map (Value.int .i64))) (by
  have:=zAM.chg a (Chg.of_below (zAC w (.cells #[.int .i64 (n:Int)] 3))) fun _ _=>id;rwa[hn]at this)
 have t:=zh hn;have L:=zh G;have E:n≤1073741824:=by omega
 clear a hn G O
 go_enter func173,ntmps173
 go_wp2_with (at_builtin;refine zAP _ rfl (.tmp 5) (.tmp 6) 38 rfl 3 Q (.int .i64 0) 1 8 underlying38 M A B C rfl (by decide) (.slice (some ⟨w.heap.size,0,none⟩) 1 1) 1 _ rfl m.o (.slice p n c) n _ rfl v.o (fun u P=>by obtain⟨z,-,rfl⟩:=List.mem_map.1 P;rfl) (by unfold maxLen;omega) (by omega) ?_;intro U w3 b d g;go_loud (have s:=zW (Below w.heap.size w w3) ((zAC w (.cells #[.int .i64 (n:Int)] 3)).grown d (zAC w (.cells #[.int .i64 (n:Int)] 3)).size fun j e=>by cases e;exact Nat.le_refl _);clear d g;obtain⟨R,S,rfl⟩:=OwnR.shape b;have I:=zh b;clear b))
 have f:=zh (zB5 (w:=w3) (p:=R) (n:=1+n) (c:=S) (zs:=(n:Int)::l) (by
  have:=OwnR.holds I.o;unfold zBg;rw[List.length_cons,t.o,Nat.add_comm n 1];exact this) (fun z D=>by
   rcases List.mem_cons.1 D with rfl|h
   ·omega
   ·exact L.o z h) (by rw[List.length_cons,t.o];omega))
 have J:=zW (zAp ((n:Int)::l)=zDq l) (by
  rw[show zAp ((n:Int)::l)=zDf (n:Int)++zAp l from rfl,zB8 (show n≤4611686018427387904 by omega),←t.o];rfl)
 rw[J.o]at f;refine f.o.mono ?_;rintro e T ⟨y,rfl,F,r,q⟩;have H:=zW (zBf w (zDq l) (.returned y) T) (⟨y,rfl,F,fun k N=>Nat.le_trans s.o.size (r k N),s.o.trans (q.mono s.o.size)⟩);clear F r q;go_wp2_with fail;go_ret;exact H.o
def fstB0 (n t:Int)(g:List Int):Bs:=1::(zDf n++zDf t++zDq g)
theorem fstB0_nat {n:Nat}(h:n≤4611686018427387904)(t:Int)(g:List Int):fstB0 (n:Int) t g=zEo n t g:=by
 unfold fstB0 zEo;rw[zB8 h]
abbrev RJC (r:Nat)(n t:Int)(g:Value)(pre:ByteArray)(d c:Int)(dv f:Value)(b:Bool):Obj:=.cells #[.int .i64 n,.int .i64 t,g,.pointer (some ⟨r,0,none⟩),.string pre,.int .i64 d,.int .i64 c,dv,f,.bool b] 84 (0,0)
theorem rowB_lit2 {w W:World}(b:Below w.heap.size w W)(x:UInt8)(g:Nat)(c:g=W.heap.size):zCm w (W.alloc (.cells #[.int .u8 (x.toNat:Int)] 5)) (.slice (some ⟨g,0,none⟩) 1 1) [x]:=by
 subst c;exact⟨own_lit #[.int .u8 (x.toNat:Int)] [x] 5 rfl 1 rfl (by decide),fun k d=>by cases d;exact b.size,b.trans ((zAC W _).mono b.size)⟩
theorem hasI_two (W:World)(n t:Int)(g:Nat)(c:g=W.heap.size):zBg (W.alloc (.cells #[.int .i64 n,.int .i64 t] 3)) (.slice (some ⟨g,0,none⟩) 2 2) [n,t]:=by
 subst c;exact⟨by simp,some ⟨W.heap.size,0,none⟩,2,rfl,fun e=>(by cases e),fun a b i u d=>by
  cases b;rw[add_zero];refine zAG (zAJ W _) ?_;simpa using d⟩
theorem zGD (g:List Int)(h:g.length≤1000):(zDq g).length≤9009:=by
 unfold zDq;have b:=zAg (n:=g.length) (by omega);have c:=zA9 g;rw[List.length_append];omega
theorem rfirst_calls {w:World}{j r:Nat}{n t:Int}{pre:ByteArray}{aG an:Int}{dv ev:Value}{am:Bool}{p:Option Addr}{m c:Nat}{g:List Int}(hc:w.heap[j]?=some (RJC r n t (.slice p m c) pre aG an dv ev am))(hg:zBg w (.slice p m c) g)(hz:∀z∈g,-9223372036854775808≤z∧z≤9223372036854775807)(hl:g.length≤1000)(hn:-9223372036854775808≤n∧n≤9223372036854775807)(ht:-9223372036854775808≤t∧t≤9223372036854775807) :
  Calls prog 167 #[.pointer (some ⟨j,0,none⟩)] w (zBf w (zAK (fstB0 n t g))):=by
 obtain⟨i0,hi,ab,ac,ad⟩:=info_parts (show(prog.info? 5).map (fun i=>(i.zero,i.size,i.bytes))=some (some (.int .u8 0),1,1) by kernel_rfl);have c0:=zAd hc;have c1:=zAn hc;have c2:=zAo hc;have Hg:=zh hg;have Hz:=zh hz;have Hl:=zh hl;clear hg hz c0 c1 c2;have HT:=zW ([1]++zAp [n,t]++zDq g=fstB0 n t g) (by simp[zAp,fstB0]);have aF:=zA9 [n,t];have aJ:(zAp [n,t]).length≤18:=by simpa using aF
 have au:=zh (zGD g hl);clear aF
 go_enter func167,ntmps167
 go_wp2_with fail;refine ost (fun w':World=>w'.heap[j]?=some (RJC r n t (.slice p m c) pre aG an dv ev am)) 15 (hc) fun b=>?_;have ao:=zh (zAU w);have av:=zh hc;have ax:=zh (zAB hc);clear hc;generalize w.drew=R at *;refine Pl [1,2,3,4,5,6,7,8,9,10] ?_
 iterate 10 (refine Pd rfl (by intro w aD;have q0:=zAd aD;have q1:=zAn aD;go_simp;try with_reducible rfl) ?_;simp only[uZ])
 refine Pn ?_;refine zDB 0 11 rfl rfl (by kernel_rfl) (by rfl) (by rfl) (fun K A=>?_) (fun K A=>?_)
 ·have aw:=zh ((zDU R (.cells #[.int .u8 1] 5) (zAB b)).trans b);have aA:=zh (rowB_lit2 ao.o 1 (R.heap.size) (by simp));have aa:=zh (aA.o.bel);go_wp2_with fail;refine A.o _ _ (aw.o) fun b=>?_;clear A
  try simp only[uZ]
  refine oon 11 rfl fun K A=>?_;have D:=zh ((zDU (R.alloc (.cells #[.int .u8 1] 5)) (.cells #[.int .i64 n,.int .i64 t] 3) (zAB b)).trans b);have ap:=zh (hasI_two (R.alloc (.cells #[.int .u8 1] 5)) n t (R.heap.size+1) (by simp));have Y:=zh (aa.o.trans ((zAC (R.alloc (.cells #[.int .u8 1] 5)) (.cells #[.int .i64 n,.int .i64 t] 3)).mono aa.o.size));go_wp2_with fail;refine A.o _ _ (D.o) fun b=>?_;clear A
  try simp only[uZ]
  refine oon 12 rfl fun K A=>?_;have G:=zh (zB5 ap.o (by simp;omega) (by simp));go_wp2_with fail;refine G.o.mono ?_;rintro e w2 ⟨x,rfl,L,ak,E⟩;have ag:=zh ((E.block _ (zAB b)).trans b);have ay:=zh (Y.o.trans (E.mono Y.o.size));have aq:=zh L;have ar:=zh E;obtain⟨px,cx,rfl,-⟩:=zAN L;clear L ak E G;generalize S:(zAp [n,t]).length=B at *;have Z:=zh S;clear S;go_wp2_with fail;refine A.o _ _ (ag.o) fun b=>?_;clear A
  try simp only[uZ]
  have O:=zh ((aA.o.next (zAC _ (.cells #[.int .i64 n,.int .i64 t] 3))).next ar.o);have ae:=zh (zAk.has aq.o);have Q:=zW (OwnR w2 5 1 (.slice (some ⟨R.heap.size,0,none⟩) 1 1) 1 (zAQ [1])) O.o.own;have ai:=zh (show zAM w2 1 (.slice px B cx) B (zAQ (zAp [n,t])) by have:=ae.o;unfold zAY at this;rwa[Z.o]at this);refine oon 13 rfl fun K A=>?_;refine zAq (.tmp 4) (.tmp 16) 22 rfl 5 i0 (.int .u8 0) 1 1 underlying22 hi ab ac ad rfl (by decide) (.slice (some ⟨R.heap.size,0,none⟩) 1 1) 1 _ rfl Q.o (.slice px B cx) B _ rfl ai.o (zAO _) (by unfold maxLen;omega) (by omega) ?_;intro v3 w3 d q a;have HE:=zh (zCm.grown (x:=zAp [n,t]) O.o (by rw[Z.o];exact d) q a);have D:=zh ((HE.o.bel.block j ax.o).trans av.o);obtain⟨p3,q3,rfl⟩:=OwnR.shape d;have ah:=zh d;clear d q a;refine A.o _ _ (D.o) fun b=>?_;clear A
  try simp only[uZ]
  refine otk 14 (v:=?v31x14) rfl ?_;simp only[uZ];refine odn ?_;have d2:=zAo D.o;have P:=zh (zC6 (w:=w3) (p:=p) (n:=m) (c:=c) (l:=g) (zAM.chg Hg.o (Chg.of_below HE.o.bel) fun _ _=>id) Hz.o (Nat.le_trans Hl.o (by decide)));go_wp2_with fail;refine P.o.mono ?_;rintro e w4 ⟨y,rfl,hy,al,U⟩;have N:=zh (HE.o.next U);have af:=zh (zAk.has hy);obtain⟨py,cy,rfl,-⟩:=zAN hy;clear hy al U P d2;generalize T:(zDq g).length=M at *;have I:=zh T;have aE:M≤10000:=by
   have h1:=au.o;omega
  have F:=zW ((([1]:Bs)++zAp [n,t]).length=1+B) (by rw[List.length_append,Z.o];rfl);have J:=zh (show OwnR w4 5 1 (.slice p3 (1+B) q3) (1+B) (zAQ ([1]++zAp [n,t])) by have:=N.o.own;unfold zAk at this;rwa[F.o]at this);have aj:=zh (show zAM w4 1 (.slice py M cy) M (zAQ (zDq g)) by have:=af.o;unfold zAY at this;rwa[I.o]at this);clear T;go_wp2_with (at_builtin;refine zAP _ rfl (.tmp 18) (.tmp 24) 22 rfl 5 i0 (.int .u8 0) 1 1 underlying22 hi ab ac ad rfl (by decide) (.slice p3 (1+B) q3) (1+B) _ rfl J.o (.slice py M cy) M _ rfl aj.o (zAO _) (by unfold maxLen;omega) (by omega) ?_;intro v5 w5 f s h;go_loud (have hE:=zCm.grown (x:=zDq g) N.o (by rw[F.o,I.o];exact f) s h;rw[HT.o]at hE;have C:=zh hE;clear s h hE;obtain⟨p5,q5,rfl⟩:=OwnR.shape f;clear f))
  have H:=zh (zBp (p:=p5) (m:=1+B+M) (c:=q5) (l:=fstB0 n t g) (w:=w5) C.o.own.has (by rw[←HT.o,List.length_append,List.length_append,Z.o,I.o];simp;omega));refine H.o.mono ?_;rintro e w6 ⟨z,rfl,W,X,V⟩;have HF:=zW (zBf w (zAK (fstB0 n t g)) (.returned z) w6) (⟨z,rfl,W,fun k hk=>Nat.le_trans C.o.bel.size (X k hk),C.o.bel.trans (V.mono C.o.bel.size)⟩);clear W X V H;go_wp2_with fail;go_ret;exact HF.o
 ·have aw:=zh ((zDU R (.cells #[.int .i64 n,.int .i64 t] 3) (zAB b)).trans b);have az:=zh (hasI_two R n t (R.heap.size) (by simp));have aa:=zh (ao.o.trans ((zAC R (.cells #[.int .i64 n,.int .i64 t] 3)).mono ao.o.size));go_wp2_with fail;refine A.o _ _ (aw.o) fun b=>?_;clear A
  try simp only[uZ]
  refine zDB 0 12 rfl rfl (by kernel_rfl) (by rfl) (by rfl) (fun K A=>?_) (fun K A=>?_)
  focus
   have D:=zh ((zDU (R.alloc (.cells #[.int .i64 n,.int .i64 t] 3)) (.cells #[.int .u8 1] 5) (zAB b)).trans b);have aB:=zh (rowB_lit2 aa.o 1 (R.heap.size+1) (by simp));have Y:=zh (aB.o.bel);go_wp2_with fail;refine A.o _ _ (D.o) fun b=>?_;clear A;try simp only[uZ]
   refine oon 12 rfl fun K A=>?_;have ap:=zW (zBg ((R.alloc (.cells #[.int .i64 n,.int .i64 t] 3)).alloc (.cells #[.int .u8 1] 5)) _ [n,t]) (zAM.chg az.o (Chg.of_below (zAC _ (.cells #[.int .u8 1] 5))) fun _ _=>id);have G:=zh (zB5 ap.o (by simp;omega) (by simp));go_wp2_with fail;refine G.o.mono ?_;rintro e w2 ⟨x,rfl,L,ak,E⟩;have ag:=zh ((E.block _ (zAB b)).trans b);have ay:=zh (Y.o.trans (E.mono Y.o.size));have aq:=zh L;have ar:=zh E;obtain⟨px,cx,rfl,-⟩:=zAN L;clear L ak E G;generalize S:(zAp [n,t]).length=B at *;have Z:=zh S;clear S;go_wp2_with fail;refine A.o _ _ (ag.o) fun b=>?_;clear A;try simp only[uZ]
   have O:=zh (aB.o.next ar.o);have ae:=zh (zAk.has aq.o);have Q:=zW (OwnR w2 5 1 (.slice (some ⟨R.heap.size+1,0,none⟩) 1 1) 1 (zAQ [1])) O.o.own;have ai:=zh (show zAM w2 1 (.slice px B cx) B (zAQ (zAp [n,t])) by have:=ae.o;unfold zAY at this;rwa[Z.o]at this);refine oon 13 rfl fun K A=>?_;refine zAq (.tmp 4) (.tmp 16) 22 rfl 5 i0 (.int .u8 0) 1 1 underlying22 hi ab ac ad rfl (by decide) (.slice (some ⟨R.heap.size+1,0,none⟩) 1 1) 1 _ rfl Q.o (.slice px B cx) B _ rfl ai.o (zAO _) (by unfold maxLen;omega) (by omega) ?_;intro v3 w3 d q a;have HE:=zh (zCm.grown (x:=zAp [n,t]) O.o (by rw[Z.o];exact d) q a);have D:=zh ((HE.o.bel.block j ax.o).trans av.o);obtain⟨p3,q3,rfl⟩:=OwnR.shape d;have ah:=zh d;clear d q a;refine A.o _ _ (D.o) fun b=>?_;clear A;try simp only[uZ]
   refine otk 14 (v:=?v32x14) rfl ?_
  rotate_left
  focus
   have G:=zh (zB5 az.o (by simp;omega) (by simp));go_wp2_with fail;refine G.o.mono ?_;rintro e w2 ⟨x,rfl,L,ak,E⟩;have D:=zh ((E.block _ (zAB b)).trans b);have Y:=zh (aa.o.trans (E.mono aa.o.size));have aH:=zh L;have aI:=zh E;obtain⟨px,cx,rfl,-⟩:=zAN L;clear L ak E G;generalize S:(zAp [n,t]).length=B at *;have Z:=zh S;clear S;go_wp2_with fail;refine A.o _ _ (D.o) fun b=>?_;clear A;try simp only[uZ]
   refine oon 0 rfl fun K A=>?_;have ag:=zh ((zDU w2 (.cells #[.int .u8 1] 5) (zAB b)).trans b);have aC:=zh (rowB_lit2 Y.o 1 (w2.heap.size) (by simp));have ay:=zh (aC.o.bel);go_wp2_with fail;refine A.o _ _ (ag.o) fun b=>?_;clear A;try simp only[uZ]
   have O:=zh aC.o;have ae:=zh (zAk.has (zCM aH.o (zAC w2 (.cells #[.int .u8 1] 5))));have Q:=zW (OwnR (w2.alloc (.cells #[.int .u8 1] 5)) 5 1 (.slice (some ⟨w2.heap.size,0,none⟩) 1 1) 1 (zAQ [1])) O.o.own;have ai:=zh (show zAM (w2.alloc (.cells #[.int .u8 1] 5)) 1 (.slice px B cx) B (zAQ (zAp [n,t])) by have:=ae.o;unfold zAY at this;rwa[Z.o]at this);refine oon 13 rfl fun K A=>?_;refine zAq (.tmp 4) (.tmp 16) 22 rfl 5 i0 (.int .u8 0) 1 1 underlying22 hi ab ac ad rfl (by decide) (.slice (some ⟨w2.heap.size,0,none⟩) 1 1) 1 _ rfl Q.o (.slice px B cx) B _ rfl ai.o (zAO _) (by unfold maxLen;omega) (by omega) ?_;intro v3 w3 d q a;have HE:=zh (zCm.grown (x:=zAp [n,t]) O.o (by rw[Z.o];exact d) q a);have D:=zh ((HE.o.bel.block j ax.o).trans av.o);obtain⟨p3,q3,rfl⟩:=OwnR.shape d;have ah:=zh d;clear d q a;refine A.o _ _ (D.o) fun b=>?_;clear A;try simp only[uZ]
   refine otk 14 (v:=?v33x14) rfl ?_
  all_goals
   simp only[uZ];refine odn ?_;have d2:=zAo D.o;have P:=zh (zC6 (w:=w3) (p:=p) (n:=m) (c:=c) (l:=g) (zAM.chg Hg.o (Chg.of_below HE.o.bel) fun _ _=>id) Hz.o (Nat.le_trans Hl.o (by decide)));go_wp2_with fail;refine P.o.mono ?_;rintro e w4 ⟨y,rfl,hy,al,U⟩;have N:=zh (HE.o.next U);have af:=zh (zAk.has hy);obtain⟨py,cy,rfl,-⟩:=zAN hy;clear hy al U P d2;generalize T:(zDq g).length=M at *;have I:=zh T;have aE:M≤10000:=by
    have h1:=au.o;omega
   have F:=zW ((([1]:Bs)++zAp [n,t]).length=1+B) (by rw[List.length_append,Z.o];rfl);have J:=zh (show OwnR w4 5 1 (.slice p3 (1+B) q3) (1+B) (zAQ ([1]++zAp [n,t])) by have:=N.o.own;unfold zAk at this;rwa[F.o]at this);have aj:=zh (show zAM w4 1 (.slice py M cy) M (zAQ (zDq g)) by have:=af.o;unfold zAY at this;rwa[I.o]at this);clear T;go_wp2_with (at_builtin;refine zAP _ rfl (.tmp 18) (.tmp 24) 22 rfl 5 i0 (.int .u8 0) 1 1 underlying22 hi ab ac ad rfl (by decide) (.slice p3 (1+B) q3) (1+B) _ rfl J.o (.slice py M cy) M _ rfl aj.o (zAO _) (by unfold maxLen;omega) (by omega) ?_;intro v5 w5 f s h;go_loud (have hE:=zCm.grown (x:=zDq g) N.o (by rw[F.o,I.o];exact f) s h;rw[HT.o]at hE;have C:=zh hE;clear s h hE;obtain⟨p5,q5,rfl⟩:=OwnR.shape f;clear f));have H:=zh (zBp (p:=p5) (m:=1+B+M) (c:=q5) (l:=fstB0 n t g) (w:=w5) C.o.own.has (by rw[←HT.o,List.length_append,List.length_append,Z.o,I.o];simp;omega));refine H.o.mono ?_;rintro e w6 ⟨z,rfl,W,X,V⟩;have HF:=zW (zBf w (zAK (fstB0 n t g)) (.returned z) w6) (⟨z,rfl,W,fun k hk=>Nat.le_trans C.o.bel.size (X k hk),C.o.bel.trans (V.mono C.o.bel.size)⟩);clear W X V H;go_wp2_with fail;go_ret;exact HF.o
theorem four_inv (b c d f:UInt8):zA1 (ofFour b c d f)=[b,c,d,f]:=by
 have g:=b.toNat_lt;have i:=c.toNat_lt;have j:=d.toNat_lt;have k:=f.toNat_lt;have e:∀(n:Nat) (a:UInt8),n%256=a.toNat→UInt8.ofNat n=a:=fun n a h=>by
  apply UInt8.toNat_inj.1;rw[UInt8.toNat_ofNat'];exact h
 unfold zA1 ofFour;rw[e _ b (by omega),e _ c (by omega),e _ d (by omega),e _ f (by omega)]
theorem fourAt_inv {b:Bs}(h:4≤b.length):zA1 (fourAt b)=b.take 4:=by
 match b,h with
 | a0::a1::a2::a3::r,_=>exact four_inv a0 a1 a2 a3
theorem four_inj {m n:Nat}(c:m<4294967296)(hn:n<4294967296)(h:zA1 m=zA1 n):m=n:=by
 have b:=zDV m c [];have d:=zDV n hn [];rw[h]at b;omega
theorem head_iff {b:Bs}(h:8≤b.length):b.take 8=zCH (fourAt b)↔fourAt (b.drop 4)=sumN (b.take 4):=by
 have f:=fourAt_inv (b:=b) (by omega);have g:=fourAt_inv (b:=b.drop 4) (by rw[List.length_drop];omega);have c:b.take 8=b.take 4++(b.drop 4).take 4:=by rw[←List.take_add]
 have d:zCH (fourAt b)=b.take 4++zA1 (sumN (b.take 4)):=by
  show zA1 (fourAt b)++zA1 (sumN (zA1 (fourAt b)))=_
  rw[f]
 rw[c,d,List.append_cancel_left_eq,←g];exact⟨fun e=>four_inj (zDW _) (zFu _) e,fun e=>by rw[e]⟩
theorem zCv {P:Program}{f:FuncId}{args:Array Value}{w:World}{n:Nat}{v:Value}(h:Calls P f args (w.drewN n) fun e w'=>e=.returned v∧∃q,w'=(w.drewN n).drewN q):Calls P f args (w.drewN n) fun e b=>e=.returned v∧∃m,b=w.drewN m :=
 h.mono fun _ _ ⟨c,q,d⟩=>⟨c,n+q,by rw[d,World.drewN_drewN]⟩
theorem run_window {P:Program}(W:World)(t e:TypeId)(j:P.underlying t=some (.slice e))(n:∀w,(Go.sizeOf e).run P w=.ok 1 w)(b o g c l h:Nat)(m:l≤h)(p:h≤c)(q:l<c) :
  (Instr.slice t (.slice (some ⟨b,o,none⟩) g c) (some (.int .i64 (l:Int))) (some (.int .i64 (h:Int))) none).run P W=.ok (.slice (some ⟨b,o+l,none⟩) (h-l) (c-l)) W:=by
 have f:P.underlying t=some (.slice (P.elem t)):=by simp[Program.elem,j]
 have k:P.elem t=e:=by simp[Program.elem,j]
 rw[run_slice_lh W t _ _ _ f .i64 .i64 _ _ (by omega) (by omega) (by omega),k,n];have d:¬c=l:=by omega
 by_cases i:l=0
 ·subst i;simp[Result.andThen,sliced,Addr.add,d]
 ·simp[Result.andThen,sliced,Addr.add,d,i]
theorem zAr (w:World)(n:Nat):Below w.heap.size w (w.drewN n):=⟨rfl,rfl,rfl,Nat.le_refl _,fun _ _=>rfl⟩
theorem zDh {w W:World}(h:Below w.heap.size w W)(n:Nat):Below w.heap.size w (W.drewN n):=h.trans ⟨rfl,rfl,rfl,Nat.le_refl _,fun _ _=>rfl⟩
theorem rdec_calls {w:World}{p:Option Addr}{n c:Nat}{b:Bs}(h:zAY w (.slice p n c) b)(R:n≤c)(hl:b.length≤140737488355328) :
  Calls prog 165 #[.slice p n c] w (zEG w b):=by
 have hn:n=b.length:=(zCc h).1;subst hn;obtain⟨i0,I,K,C,aa⟩:=info_parts (show(prog.info? 5).map (fun i=>(i.zero,i.size,i.bytes))=some (some (.int .u8 0),1,1) by kernel_rfl)
 by_cases H:b.length<8
 ·have d:=zh (zBd (w:=w) (w':=w) (b:=b) (k:=2) (by unfold decE;rw[if_pos H]) (by decide) (Below.refl _ _));generalize hN:b.length=N at *;clear hN h
  go_enter func165,ntmps165
  go_wp2_with fail
  go_ret3
  exact d.o
 ·have E:0<b.length:=by omega
  rcases h.at with e|⟨g,o,c2,e,-⟩
  ·rw[e]at E;simp at E
  cases e;have J:=zh (fun(W:World) (s:Below w.heap.size w W)=>rfour_at (zAY.from (h.below s) (k:=4) (by omega) (c-4)) (by rw[List.length_drop];omega));have L:=zh (fun(W:World) (s:Below w.heap.size w W)=>zFV (zAY.cut (h.below s) (k:=4) (by omega) c) (by rw[List.length_take];omega));have ae:∀W,(Instr.slice 22 (.slice (some ⟨g,o,none⟩) b.length c) (some (.int .i64 4)) none none).run prog W=.ok (.slice (some ⟨g,o+4,none⟩) (b.length-4) (c-4)) W:=fun W=>run_from W underlying22 I C g o b.length c 4 (by omega) R (by omega);have af:∀W,(Instr.slice 22 (.slice (some ⟨g,o,none⟩) b.length c) none (some (.int .i64 4)) none).run prog W=.ok (.slice (some ⟨g,o,none⟩) 4 c) W:=fun W=>zCO W underlying22 I _ _ c 4 (by omega)
  by_cases G:fourAt (b.drop 4)=sumN (b.take 4)
  ·have f:=(head_iff (b:=b) (by omega)).2 G;have ac:((fourAt (b.drop 4):Int) != sumF (b.take 4))=false:=by rw[zDI];simp;omega
   have S:=zh (fun(W:World) (s:Below w.heap.size w W)=>rfour_at (h.below s) (by omega))
   by_cases T:1048576<fourAt b
   ·have d:=zh (fun W=>zBd (w:=w) (w':=W) (b:=b) (k:=5) (by unfold decE;rw[if_neg H,if_neg (by simpa using f),if_pos T]) (by decide));have Q:=zDW b;generalize fourAt (b.drop 4)=x at *;generalize sumF (b.take 4)=y at *;generalize fourAt b=z at *;generalize b.length=N at *;clear h G f
    go_enter func165,ntmps165
    go_wp2_with fail
    go_quiet ((first|(go_at_call 197;refine zCv (J.o _ (zAr _ _)))|(go_at_call 184;refine Calls.quiet_of_same (L.o _ (zAr _ _)))))
    go_wp2_with fail;refine(S.o _ (zAr _ _)).mono ?_;rintro e w2 ⟨rfl,q2,rfl⟩;go_wp2_with fail
    go_ret3
    exact d.o _ (zAr _ _)
   ·by_cases Z:b.length<fourAt b+12
    ·have d:=zh (fun W=>zBd (w:=w) (w':=W) (b:=b) (k:=2) (by unfold decE;rw[if_neg H,if_neg (by simpa using f),if_neg T,if_pos Z]) (by decide));have Q:=zDW b;generalize fourAt (b.drop 4)=x at *;generalize sumF (b.take 4)=y at *;generalize fourAt b=z at *;generalize b.length=N at *;clear h G f
     go_enter func165,ntmps165
     go_wp2_with fail
     go_quiet ((first|(go_at_call 197;refine zCv (J.o _ (zAr _ _)))|(go_at_call 184;refine Calls.quiet_of_same (L.o _ (zAr _ _)))))
     go_wp2_with fail;refine(S.o _ (zAr _ _)).mono ?_;rintro e w2 ⟨rfl,q2,rfl⟩;go_wp2_with fail
     go_ret3
     exact d.o _ (zAr _ _)
    ·have Q:=zDW b;have H8:=zh (fun(W:World) (s:Below w.heap.size w W)=>rfour_at (zAY.from (h.below s) (k:=8+fourAt b) (by omega) (c-(8+fourAt b))) (by rw[List.length_drop];omega));have M:=zh (fun(W:World) (s:Below w.heap.size w W)=>zFV (zAY.cut (h.below s) (k:=8+fourAt b) (by omega) c) (by rw[List.length_take];omega));have V:=zW (∀W,Below w.heap.size w W→zAM W 1 (.slice (some ⟨g,o+8,none⟩) (fourAt b) (c-8)) (fourAt b) (zAQ ((b.drop 8).take (fourAt b)))) (fun W s=>by
      have X:=zAY.cut (zAY.from (h.below s) (k:=8) (by omega) (c-8)) (k:=fourAt b) (by rw[List.length_drop];omega) (c-8);unfold zAY at X;rw[List.length_take,List.length_drop,Nat.min_eq_left (by omega)]at X;exact X)
     have ag:∀W,(Instr.slice 22 (.slice (some ⟨g,o,none⟩) b.length c) (some (.int .i64 (8+(fourAt b:Int)))) none none).run prog W=.ok (.slice (some ⟨g,o+(8+fourAt b),none⟩) (b.length-(8+fourAt b)) (c-(8+fourAt b))) W:=fun W=>by
      have:=run_from (P:=prog) W underlying22 I C g o b.length c (8+fourAt b) (by omega) R (by omega);rwa[show((8+fourAt b:Nat):Int)=8+(fourAt b:Int) by omega]at this
     have ah:∀W,(Instr.slice 22 (.slice (some ⟨g,o,none⟩) b.length c) none (some (.int .i64 (8+(fourAt b:Int)))) none).run prog W=.ok (.slice (some ⟨g,o,none⟩) (8+fourAt b) c) W:=fun W=>by
      have:=zCO (P:=prog) W underlying22 I (some ⟨g,o,none⟩) b.length c (8+fourAt b) (by omega);rwa[show((8+fourAt b:Nat):Int)=8+(fourAt b:Int) by omega]at this
     have ai:∀W,(Instr.slice 22 (.slice (some ⟨g,o,none⟩) b.length c) (some (.int .i64 8)) (some (.int .i64 (8+(fourAt b:Int)))) none).run prog W=.ok (.slice (some ⟨g,o+8,none⟩) (fourAt b) (c-8)) W:=fun W=>by
      have:=run_window (P:=prog) W 22 5 underlying22 (fun w=>by simp[sizeOf,typeInfo,I,C]) g o b.length c 8 (8+fourAt b) (by omega) (by omega) (by omega);rwa[show((8+fourAt b:Nat):Int)=8+(fourAt b:Int) by omega,Nat.add_sub_cancel_left]at this
     have aj:IntKind.i64.wrap (8+(fourAt b:Int))=8+(fourAt b:Int):=IntWalk.i64_in _ ⟨by omega,by omega⟩;have ab:IntKind.i64.wrap (12+(fourAt b:Int))=12+(fourAt b:Int):=IntWalk.i64_in _ ⟨by omega,by omega⟩
     by_cases U:fourAt (b.drop (8+fourAt b))=sumN (b.take (8+fourAt b))
     ·have Y:decE b=0:=by unfold decE;rw[if_neg H,if_neg (by simpa using f),if_neg T,if_neg Z,if_neg (by simpa using U)]
      have d:=zW (∀v W,OwnR W 5 1 v (fourAt b) (zAQ ((b.drop 8).take (fourAt b)))→(∀k,v.ownBlock=some k→w.heap.size≤k)→Below w.heap.size w W→zEG w b (.returned (.tuple #[v,.int .i64 (12+(fourAt b:Int)),.int .i64 0])) W) (fun v W ho hn s =>
       ⟨v,by unfold decL;rw[Y,if_pos rfl,show((fourAt b+12:Nat):Int)=12+(fourAt b:Int) by omega];rfl,by
        unfold decB;rw[if_pos Y];unfold zAk;rw[List.length_take,List.length_drop,Nat.min_eq_left (by omega)];exact ho,hn,s⟩)
      have O:((fourAt (b.drop (8+fourAt b)):Int) != sumF (b.take (8+fourAt b)))=false:=by rw[zDI];simp;omega
      generalize fourAt (b.drop (8+fourAt b))=x2 at *;generalize sumF (b.take (8+fourAt b))=y2 at *;generalize fourAt (b.drop 4)=x at *;generalize sumF (b.take 4)=y at *;generalize hz:fourAt b=z at *;generalize b.length=N at *;clear h G f U Y hz
      go_enter func165,ntmps165
      go_wp2_with fail
      go_quiet ((first|(go_at_call 197;refine zCv (J.o _ (zAr _ _)))|(go_at_call 184;refine Calls.quiet_of_same (L.o _ (zAr _ _)))))
      go_wp2_with fail;refine(S.o _ (zAr _ _)).mono ?_;rintro e w2 ⟨rfl,q2,t⟩;have q:=zh (show Below w.heap.size w w2 by rw[t];exact zDh (zAr _ _) _);clear t;go_wp2_with fail
      go_quiet ((first|(go_at_call 197;refine zCv (H8.o _ (zDh q.o _)))|(go_at_call 184;refine Calls.quiet_of_same (M.o _ (zDh q.o _)))))
      have a:=zh (zDh q.o nq);generalize w2.drewN nq=w5 at *;have A:=zh (a.o.alloc a.o.size (.cells #[] 5));go_wp2_with (at_builtin;refine zAP (w5.alloc (.cells #[] 5)) rfl (.tmp 37) (.tmp 41) 22 rfl 5 i0 (.int .u8 0) 1 1 underlying22 I K C aa rfl (by decide) (.slice (some ⟨w5.heap.size,0,none⟩) 0 0) 0 [] rfl (zBH w5 _) (.slice (some ⟨g,o+8,none⟩) z (c-8)) z _ rfl (V.o _ A.o) (zAO _) (by unfold maxLen;omega) (by omega) ?_;intro ak al l m r;rw[Nat.zero_add,List.nil_append]at l;have hX:=A.o.grown m A.o.size (fun j e=>by have:=a.o.size;simp[Value.ownBlock]at e;omega);have D:=zA5 (B:=w.heap.size) r (fun k hk=>by have:=a.o.size;simp[Value.ownBlock]at hk;omega) A.o.size;have F:=zh (And.intro hX (And.intro l D));clear l m r hX D)
      go_ret3
      exact d.o _ _ F.o.2.1 F.o.2.2 F.o.1
     ·have d:=zh (fun W=>zBd (w:=w) (w':=W) (b:=b) (k:=4) (by unfold decE;rw[if_neg H,if_neg (by simpa using f),if_neg T,if_neg Z,if_pos U]) (by decide));have O:((fourAt (b.drop (8+fourAt b)):Int) != sumF (b.take (8+fourAt b)))=true:=by rw[zDI];simp;omega
      generalize fourAt (b.drop (8+fourAt b))=x2 at *;generalize sumF (b.take (8+fourAt b))=y2 at *;generalize fourAt (b.drop 4)=x at *;generalize sumF (b.take 4)=y at *;generalize fourAt b=z at *;generalize b.length=N at *;clear h G f U
      go_enter func165,ntmps165
      go_wp2_with fail
      go_quiet ((first|(go_at_call 197;refine zCv (J.o _ (zAr _ _)))|(go_at_call 184;refine Calls.quiet_of_same (L.o _ (zAr _ _)))))
      go_wp2_with fail;refine(S.o _ (zAr _ _)).mono ?_;rintro e w2 ⟨rfl,q2,t⟩;have q:=zh (show Below w.heap.size w w2 by rw[t];exact zDh (zAr _ _) _);clear t;go_wp2_with fail
      go_quiet ((first|(go_at_call 197;refine zCv (H8.o _ (zDh q.o _)))|(go_at_call 184;refine Calls.quiet_of_same (M.o _ (zDh q.o _)))))
      go_wp2_with fail
      go_ret3
      exact d.o _ (zDh q.o _)
  ·have d:=zh (fun W=>zBd (w:=w) (w':=W) (b:=b) (k:=4) (by unfold decE;rw[if_neg H,if_pos (fun e=>G ((head_iff (by omega)).1 e))]) (by decide));have ad:((fourAt (b.drop 4):Int) != sumF (b.take 4))=true:=by rw[zDI];simp;omega
   generalize fourAt (b.drop 4)=x at *;generalize sumF (b.take 4)=y at *;generalize b.length=N at *;clear h G
   go_enter func165,ntmps165
   go_wp2_with fail
   go_quiet ((first|(go_at_call 197;refine zCv (J.o _ (zAr _ _)))|(go_at_call 184;refine Calls.quiet_of_same (L.o _ (zAr _ _)))))
   go_wp2
   go_ret3
   exact d.o _ (zAr _ _)
theorem rone_calls {w:World}{p:Option Addr}{n c:Nat}{b:Bs}(h:zAY w (.slice p n c) b)(r:n≤c)(z:b.length≤140737488355328) :
  Calls prog 162 #[.slice p n c] w (OneOf w b):=by
 have hn:n=b.length:=(zCc h).1;subst hn;have y:=zh (rdec_calls h r z);have q:decL b≤4294967307:=by
  have:=zDW b;unfold decL
  split<;>omega
 clear h
 go_enter func162,ntmps162
 go_wp2_with fail;refine y.o.mono ?_;rintro e w1 ⟨v,rfl,m,g,f⟩
 by_cases i:decE b=0
 ·by_cases l:decL b=b.length
  ·have j:oneE b=0:=by unfold oneE;rw[if_pos i,if_pos l]
   have d:=zW (OneOf w b (.returned (.tuple #[v,.int .i64 0])) w1) (⟨v,by rw[j];rfl,by unfold oneB;rw[if_pos j];exact m,g,f⟩);rw[i,l];generalize b.length=N at *;clear m g f i l j q;go_wp2_with fail
   go_ret2
   exact d.o
  ·have d:=zh (one_nil (w:=w) (w':=w1) (b:=b) (k:=3) (by unfold oneE;rw[if_pos i,if_neg l]) (by decide) f);have s:((decL b:Int) != (b.length:Int))=true:=by
    simp only[bne_iff_ne,ne_eq,Int.natCast_inj];exact l
   rw[i];generalize decL b=M at *;generalize b.length=N at *;clear m g f i l;go_wp2_with fail
   go_ret2
   exact d.o
 ·have j:oneE b=decE b:=by unfold oneE;rw[if_neg i]
  have d:=zh (one_nil (w:=w) (w':=w1) (b:=b) (k:=decE b) j i f);have s:((decE b:Int)==0)=false:=by simp;omega
  have t:((decE b:Int) != 0)=true:=by simp;omega
  generalize decE b=E at *;generalize decL b=M at *;generalize b.length=N at *;clear m g f j;go_wp2_with fail
  go_ret2
  exact d.o
end Go.Proofs.YtapfnehdgailmaaGreat
namespace Go.Sat
open Go Go.RowKit
theorem zE8 {P:Program}(w:World){t e:TypeId}{i:TypeInfo}(j:P.underlying t=some (.slice e))(g:P.info? e=some i)(p:Option Addr)(c b k:Nat)(h:k≤c)(l:c≤b) :
  (Instr.slice t (.slice p c b) (some (.int .i64 (k:Int))) none none).run P w=.ok (.slice (if b-k=0 then p else p.map fun x=>x.add (k*i.size)) (c-k) (b-k)) w:=by
 have f:(Instr.sliceBound (.int .i64 (k:Int)) c .sliceB).run P w=.ok k w:=by
  rw[run_sliceBound _ _ _ _ _ (by omega) (by omega)];simp
 simp[Instr.slice,run_underlying j,Instr.sliceBounds,f,sizeOf,typeInfo,g,Result.andThen]
 by_cases d:b=k
 ·rw[if_pos d,if_pos (by omega)]
 ·rw[if_neg d,if_neg (by omega)]
theorem zAM.upto {w:World}{size:Nat}{p:Option Addr}{n c:Nat}{xs:List Value}(h:zAM w size (.slice p n c) n xs){k:Nat}(m:k≤n)(d:Nat):zAM w size (.slice p k d) k (xs.take (k*size)):=by
 obtain⟨o,q,f,e,g,l⟩:=h;cases e;refine⟨by rw[List.length_take,o];exact Nat.min_eq_left (Nat.mul_le_mul_right _ m),p,d,rfl,fun e=>?_,fun a j i u b=>l a j i u ?_⟩
 ·have:=g e;omega
 ·rw[List.getElem?_take]at b
  split at b
  ·exact b
  ·cases b
theorem OwnR.cut_from {w:World}{e:TypeId}{size:Nat}{p:Option Addr}{n c:Nat}{xs:List Value}(h:OwnR w e size (.slice p n c) n xs){k:Nat}(y:k≤n):zAM w size (.slice (if c-k=0 then p else p.map fun x=>x.add (k*size)) (n-k) (c-k)) (n-k) (xs.drop (k*size)):=by
 have d:(xs.drop (k*size)).length=(n-k)*size:=by rw[List.length_drop,h.1,Nat.sub_mul]
 rcases h.2 with⟨e,hn⟩|⟨g,o,cur,e,v,s,_⟩
 ·cases e;have j:k=0:=by omega
  subst j;exact⟨d,none,0,by simp,fun _=>rfl,fun a b=>by cases b⟩
 ·cases e
  by_cases m:c-k=0
  ·rw[if_pos m];have l:n-k=0:=by omega
   rw[l]at d ⊢;have t:xs.drop (k*size)=[]:=List.eq_nil_of_length_eq_zero (by rw[d];simp);rw[t];exact⟨by simp,_,_,rfl,fun e=>(by cases e),fun a b i u f=>by simp at f⟩
  ·rw[if_neg m];refine⟨d,_,_,rfl,fun e=>(by cases e),fun a b i u f=>?_⟩;cases b;have q:(⟨g,0,none⟩:Addr).add (k*size)=⟨g,k*size,none⟩:=add_zero _ _;have r:(⟨g,k*size,none⟩:Addr).add i=⟨g,k*size+i,none⟩:=by unfold Addr.add;split<;>simp_all
   show w.cell? (((⟨g,0,none⟩:Addr).add (k*size)).add i)=some u
   rw[q,r];rw[List.getElem?_drop]at f;have:=h.cells (g:=g) rfl (k*size+i) u f;rwa[add_zero]at this
end Go.Sat
namespace Go.Proofs.YtapfnehdgailmaaGreat
open Go.RowKit Go.Sat Go.Maps
theorem cells_take (L:List zAR)(i:Nat):(L.take i).flatMap zAR.cells=(L.flatMap zAR.cells).take (i*3):=by
 induction L generalizing i with
 | nil=>simp
 | cons y r ih =>
  cases i with
  | zero=>simp
  | succ i =>
   have b:y.cells.length=3:=rfl;rw[List.take_succ_cons,List.flatMap_cons,List.flatMap_cons,ih i,List.take_append,List.take_of_length_le (l:=y.cells) (by omega)]
   congr 2
   omega
theorem cells_drop (L:List zAR)(i:Nat):(L.drop i).flatMap zAR.cells=(L.flatMap zAR.cells).drop (i*3):=by
 induction L generalizing i with
 | nil=>simp
 | cons y r ih =>
  cases i with
  | zero=>simp
  | succ i =>
   have b:y.cells.length=3:=rfl;rw[List.drop_succ_cons,List.flatMap_cons,ih i,List.drop_append,List.drop_of_length_le (l:=y.cells) (by omega),List.nil_append]
   congr 1
   omega
section
variable {w:World} {r:Nat} {v:Value} {L:List zAR} {own:Nat→Prop} {D:zAA} {room:Nat} {fuse:Option Nat}
theorem cells_one {L:List zAR}(h:∀x∈L,x.b.oneCell'=true):∀u∈L.flatMap zAR.cells,u.oneCell'=true:=by
 intro u d;obtain⟨x,f,c⟩:=List.mem_flatMap.1 d;simp only[zAR.cells,List.mem_cons,List.not_mem_nil,or_false]at c;rcases c with rfl|rfl|rfl
 ·rfl
 ·exact h x f
 ·rfl
theorem zAy.one (h:zAy w r v L own room fuse):∀x∈L,x.b.oneCell'=true:=fun x d=>by
 obtain⟨p,c,e,_⟩:=zEA (h.data x d);rw[e];rfl
theorem zAy.relist (h:zAy w r v L own room fuse){v':Value}{L':List zAR}(g:OwnR w 127 3 v' L'.length (L'.flatMap zAR.cells))(j:∀x∈L',x∈L∨(zAk w 5 x.b x.f.data∧∀k,x.b.ownBlock=some k→own k∧k≠r))(hn:∀k,v'.ownBlock=some k→¬own k) :
  zAy (w.setCell ⟨r,1,none⟩ v') r v' L' (fun k=>own k∨v'.ownBlock=some k) room fuse where
 cells:=zAD h.cells 1 v'
 row:=g.keep fun k c=>set_other _ (fun e=>hn k c (by have e:k=r:=e;rw[e];exact h.or))
 data:=fun x d=>by
  rcases j x d with d|⟨e,i⟩
  ·exact OwnR.keep (h.data x d) fun k c=>set_other _ (h.ob x d k c).2.1
  ·exact OwnR.keep e fun k c=>set_other _ (i k c).2
 or:=.inl h.or
 ov:=fun k c=>⟨.inr c,fun e=>hn k c (by rw[e];exact h.or)⟩
 ob:=fun x d k c=>by
  rcases j x d with d|⟨_,e⟩
  ·exact⟨.inl (h.ob x d k c).1,(h.ob x d k c).2.1,fun e=>hn k e (h.ob x d k c).1⟩
  ·exact⟨.inl (e k c).1,(e k c).2,fun i=>hn k i (e k c).1⟩
 olt:=fun k c=>by
  have:k<w.heap.size:=by
   rcases c with c|c
   ·exact h.olt k c
   ·exact g.lt c
  simpa[World.setCell]using this
end
section
variable {w:World} {r:Nat} {v:Value} {L:List zAR} {own:Nat→Prop} {D:zAA}
theorem zAf.fit (h:zAf w r v L own D):L.length≤4096:=by rw[h.len];exact h.ok.count
theorem rappend_full (h:zAf w r v L own D)(s:ByteArray)(P:s.size≤9223372036854775807){S:Option Addr}{m I:Nat}(M:m≤140737488355328)(C:D.may [nm s]=0)
  (k:D.room<D.used+m∨(Sat.get (nm s) D.files=none∧4096≤D.files.length)) :
  Calls prog 16 #[.pointer (some ⟨r,0,none⟩),.string s,.slice S m I] w (zCn w r own (D,6)):=by
 have z:zAf (w.alloc (.cells #[.string s] 9)) r v L own D:=h.below ((Below.refl _ _).alloc (Nat.le_refl _) _);have b:=zCY z (some ⟨w.heap.size,0,none⟩) [s] 1 (zBc w s) (by simp) (by simpa using P);simp only[List.map_cons,List.map_nil]at b;have g:=zBu z s;rw[h.is]at g;rw[C]at b;have F:=zh (fun W y=>zBY h (w':=W) y 6);have E:=zh (fun W y=>zFr (h.below (w':=W) y));obtain⟨pv,cv,rfl⟩:=h.slice;have f:=zW (∀W,Below w.heap.size w W→W.cell? ⟨r,0,none⟩=some (.int .i64 (D.room:Int))∧W.cell? ⟨r,1,none⟩=some (.slice pv L.length cv)) fun W y=>⟨(h.below y).c0,(h.below y).c1⟩;have Q:D.used≤1073741824:=Nat.le_trans h.ok.used h.ok.room;have O:=h.ok.room;have G:=h.fit;rw[←h.len]at k;generalize zA3 (nm s) (L.map zAR.n)=i at *;clear h z;generalize D.used=U at *;generalize D.room=R at *;generalize L.length=N at *
 by_cases a:R<U+m
 focus
  have A:decide ((R:Int)<(U:Int)+(m:Int))=true:=by simp;omega
  have B:decide (R<U+m)=true:=by simpa using a
  clear k C
 rotate_left
 focus
  obtain⟨H,T⟩:Sat.get (nm s) D.files=none∧4096≤N:=by
   rcases k with k|k
   ·exact absurd k a
   ·exact k
  rw[H]at g;have J:N=4096:=by omega
  subst J;have A:decide ((R:Int)<(U:Int)+(m:Int))=false:=by simp;omega
  have B:decide (R<U+m)=false:=by simpa using a
  clear k C H
 all_goals
  have j:=zh b;have l:=zh g;clear b g;go_enter func16,ntmps16;go_wp2_with fail;refine j.o.mono ?_;rintro e w2 ⟨rfl,rfl⟩;go_wp2_with fail;refine l.o.mono ?_;rintro e w3 ⟨rfl,q,rfl⟩;have c:=zh (zAu w (.cells #[.string s] 9) q);have d:=zh (fun n=>E.o _ (c.o.trans (show Below _ _ (((w.alloc (.cells #[.string s] 9)).drewN q).drewN n)from⟨rfl,rfl,rfl,Nat.le_refl _,fun _ _=>rfl⟩)));obtain⟨p,t⟩:=f.o _ c.o;generalize (w.alloc (.cells #[.string s] 9)).drewN q=W at *;go_wp2_with fail;go_quiet ((go_at_call 71;refine Calls.quiet_of_same (d.o _)));clear p t;go_wp2_with fail;go_ret;exact F.o _ (c.o.trans ⟨rfl,rfl,rfl,Nat.le_refl _,fun _ _=>rfl⟩)
theorem rapp_end {W m:World}{b:Nat→Prop}{g i:Nat}{x:zAR}{d:Value}{q:Bs}{F:List (Bs×zAS)}(o:zAy W r v L b D.room D.fuse)(A:v.ownBlock=some g)(E:L[i]?=some x)(s:Below W.heap.size W m)(a:zAk m 5 d q)(l:∀k,d.ownBlock=some k→W.heap.size≤k)
  (hF:F=(L.set i ⟨x.n,d,⟨q,x.f.lasts⟩⟩).map zAR.key) (y:zAA.OK {D with files:=F}) (hch:Chg own w W) (hx1:∀k,b k→own k∨w.heap.size≤k) (hfz:D.fuse≠some 0) :
  Calls prog 72 #[.pointer (some ⟨r,0,none⟩)] (m.setCell ⟨g,i*3+1,none⟩ d) (zCn w r own (zAA.done {D with files:=F},0)):=by
 have c:zAy m r v L b D.room D.fuse:=o.keep s.size fun k c=>s.block k (o.olt k c);have p:=(o.ov g A).1;have C:=c.store A E 1 (by omega) d ⟨x.n,d,⟨q,x.f.lasts⟩⟩ rfl (own':=fun k=>b k∨d.ownBlock=some k) (fun _ h=>.inl h) a
  (fun k c=>⟨.inr c,fun e=>by have:=o.olt r o.or;have:=l k c;omega,fun e=>by have:=o.olt g p;have:=l k c;omega⟩)
  (fun k h=>by
   rcases h with h|h
   ·exact c.olt k h
   ·exact OwnR.lt a h)
 have t:zAf (m.setCell ⟨g,i*3+1,none⟩ d) r v (L.set i ⟨x.n,d,⟨q,x.f.lasts⟩⟩) (fun k=>b k∨d.ownBlock=some k) {D with files:=F}:=C.full rfl rfl hF y;have z:=hch.size;have j:Chg own w (m.setCell ⟨g,i*3+1,none⟩ d):=by
  refine(hch.trans ((Chg.of_below s).mono (T:=fun _=>False) fun _ _ h=>h) fun _ _ h=>h.elim).trans (Chg.setCell m ⟨g,i*3+1,none⟩ d) fun k c e=>?_;have e:k=g:=e;rcases hx1 g p with h|h
  ·rw[e];exact h
  ·omega
 refine(zCw t hfz).mono ?_;intro e G B;refine zDb j (fun k c=>?_) j.size B;rcases c with c|c
 ·exact hx1 k c
 ·exact .inr (Nat.le_trans z (l k c))
theorem rappend_is (h:zAf w r v L own D)(s:ByteArray)(hs:s.size≤9223372036854775807){pb:Option Addr}{m cb:Nat}{l:Bs}(hl:zAY w (.slice pb m cb) l)(hm:D.may [nm s]=0){f:zAS}(hg:Sat.get (nm s) D.files=some f)(aB:D.used+m≤D.room)
  (av:zAA.OK {D with files:=put (nm s) ⟨f.data++l,f.lasts⟩ D.files}) :
  Calls prog 16 #[.pointer (some ⟨r,0,none⟩),.string s,.slice pb m cb] w (zCn w r own (zAA.done {D with files:=put (nm s) ⟨f.data++l,f.lasts⟩ D.files},0)):=by
 have al:m=l.length:=(zCc hl).1;have h1:zAf (w.alloc (.cells #[.string s] 9)) r v L own D:=h.below ((Below.refl _ _).alloc (Nat.le_refl _) _);have N:=zCY h1 (some ⟨w.heap.size,0,none⟩) [s] 1 (zBc w s) (by simp) (by simpa using hs);simp only[List.map_cons,List.map_nil]at N;have am:=zBu h1 s;rw[h.is,hg]at am;rw[hm]at N;have HU:=zh (fun W P=>zFr (h.below (w':=W) P));obtain⟨x,hx,aD,rfl⟩:=h.hit hg;have aG:=h.len_le hx;have an:=List.mem_of_getElem? hx;have hN:zA3 (nm s) (L.map zAR.n)<L.length:=(List.getElem?_eq_some_iff.1 hx).1;rcases h.at with h0|⟨g,c0,ab,az,-⟩
 ·rw[h0]at hN;simp at hN
 have X:v.ownBlock=some g:=by rw[ab];rfl
 have aI:D.used≤1073741824:=Nat.le_trans h.ok.used h.ok.room;have aH:=h.ok.room;have ah:=fun v'=>h.put hg ⟨x.n,v',⟨x.f.data++l,x.f.lasts⟩⟩ aD;have au:=zFS hm;obtain⟨px,cx,ex,aC⟩:=zEA (h.data x an);generalize zA3 (nm s) (L.map zAR.n)=i at *;have aa:=zW (∀W,Below w.heap.size w W→W.cell? ⟨r,0,none⟩=some (.int .i64 (D.room:Int))∧W.cell? ⟨r,1,none⟩=some (.slice (some ⟨g,0,none⟩) L.length c0)) (fun W P=>⟨(h.below P).c0,(h.below P).c1.trans (by rw[ab])⟩);have b:=zW (∀W,Below w.heap.size w W→W.cell? ⟨r,1,none⟩=some (.slice (some ⟨g,0,none⟩) L.length c0)∧W.cell? ⟨g,i*3+1,none⟩=some (.slice px x.f.data.length cx)∧W.frozen? ⟨g,i*3+1,none⟩=false) (fun W P=>by
  have hW:=h.below P;exact⟨hW.c1.trans (by rw[ab]),(hW.core.at X hx).2.1.trans (by rw[ex]),hW.core.free X _⟩)
 have ar:=zW (∀W,Below w.heap.size w W→zAM W 1 (.slice px x.f.data.length cx) x.f.data.length (zAQ x.f.data)) (fun W P=>by
  have hW:=((h.below P).data x an).has;rw[ex]at hW;exact hW)
 have ap:=zW (∀W,Below w.heap.size w W→zAM W 1 (.slice pb m cb) m (zAQ l)) (fun W P=>by
  have hW:=hl.below P;unfold zAY at hW;rw[←al]at hW;exact hW)
 have af:=zW (∀w7 v7,Below w.heap.size w w7→zAk w7 5 v7 (x.f.data++l)→(∀k,v7.ownBlock=some k→w.heap.size≤k)→Calls prog 72 #[.pointer (some ⟨r,0,none⟩)] (w7.setCell ⟨g,i*3+1,none⟩ v7) (zCn w r own (zAA.done {D with files:=put (nm s) ⟨x.f.data++l,x.f.lasts⟩ D.files},0))) (
  fun w7 v7 P h7 aA=>rapp_end h.core X hx P h7 aA (ah v7) av (Chg.refl _ _) (fun _ h=>.inl h) au)
 have ao:=zW (r≠g) ((h.ov g X).2.symm);have ag:=zW ((x.f.data++l).length=x.f.data.length+m) (by rw[List.length_append,al]);obtain⟨i0,hi,ac,ad,ae⟩:=info_parts (show(prog.info? 5).map (fun i=>(i.zero,i.size,i.bytes))=some (some (.int .u8 0),1,1) by kernel_rfl);clear h h1 hm hg av hx an ah X ex al aC hl az au;subst ab;generalize aJ:x.f.data.length=Q at *;have aE:decide ((D.room:Int)<(D.used:Int)+(m:Int))=false:=by simp;omega
 have aF:decide (D.room<D.used+m)=false:=by simp;omega
 generalize D.used=U at *;generalize ax:D.room=R at *;have aq:=zh N;have aw:=zh am;clear N am
 go_enter func16,ntmps16
 go_wp2_with fail;refine aq.o.mono ?_;rintro e w2 ⟨rfl,rfl⟩;go_wp2_with fail;refine aw.o.mono ?_;rintro e w3 ⟨rfl,q,rfl⟩;have ai:=zh (zAu w (.cells #[.string s] 9) q);have aj:=zh (fun n=>HU.o _ (ai.o.trans (show Below _ _ (((w.alloc (.cells #[.string s] 9)).drewN q).drewN n)from⟨rfl,rfl,rfl,Nat.le_refl _,fun _ _=>rfl⟩)));obtain⟨ay,J⟩:=aa.o _ ai.o;generalize (w.alloc (.cells #[.string s] 9)).drewN q=W at *;go_wp2_with fail
 go_quiet ((go_at_call 71;refine Calls.quiet_of_same (aj.o _)))
 clear ay J;go_wp2_with fail;have S:=zW (Below w.heap.size w (W.drewN nq).drew) (ai.o.trans ⟨rfl,rfl,rfl,Nat.le_refl _,fun _ _=>rfl⟩);have hS:=(b.o _ S.o).1;refine ost (fun W':World=>W'.cell? ⟨r,1,none⟩=some (.slice (some ⟨g,0,none⟩) L.length c0)) 20 hS fun c=>?_;clear hS;generalize (W.drewN nq).drew=Wd at *;refine Pl [0,1,2,3,4,6,7,8,9,10,11,12,15] ?_
 iterate 13 (refine Pc rfl ?_;simp only[uZ])
 refine Pn ?_;refine zDB 5 13 rfl rfl (by kernel_rfl) (by rfl) (by rfl) (fun K t=>?_) (fun K t=>?_)
 focus
  go_wp2_with fail;have O:=zh (S.o.alloc S.o.size (.cells #[] 5));refine t.o _ _ ((b.o _ O.o).1) fun c=>?_;clear t;try simp only[uZ]
  refine oon 13 rfl fun K t=>?_;have M:=(b.o _ O.o).2.1;go_wp2_with fail;clear M
 rotate_left
 focus
  have M:=(b.o _ S.o).2.1;go_wp2_with fail;clear M;refine t.o _ _ ((b.o _ S.o).1) fun c=>?_;clear t;try simp only[uZ]
  refine oon 5 rfl fun K t=>?_;go_wp2_with fail;have O:=zh (S.o.alloc S.o.size (.cells #[] 5))
 all_goals
  refine t.o _ _ ((b.o _ O.o).1) fun c=>?_;clear t;try simp only[uZ]
  refine oon 14 rfl fun K t=>?_;have G:=zBH Wd 5;have Z:=ar.o _ O.o;refine zAq (.tmp 77) (.tmp 85) 22 (by rfl) 5 i0 (.int .u8 0) 1 1 underlying22 hi ac ad ae rfl (by decide) (.slice (some ⟨Wd.heap.size,0,none⟩) 0 0) 0 [] (by rfl) G (.slice px Q cx) Q _ (by rfl) Z (zAO _) (by unfold maxLen;omega) (by omega) ?_;clear G Z;intro v6 w6 d y A;have T:=zh (O.o.grown y O.o.size (fun j e=>by have:=S.o.size;simp[Value.ownBlock]at e;omega));have E:=zA5 (B:=w.heap.size) A (fun k hk=>by have:=S.o.size;simp[Value.ownBlock]at hk;omega) O.o.size;rw[Nat.zero_add,List.nil_append]at d;obtain⟨p6,c6,rfl⟩:=OwnR.shape d;have I:=zh d;have a:=zh E;clear y A d E;refine t.o _ _ ((b.o _ T.o).1) fun c=>?_;clear t;try simp only[uZ]
  refine oon 16 rfl fun K t=>?_;have Y:=ap.o _ T.o;refine zAq (.tmp 86) (.tmp 87) 22 (by rfl) 5 i0 (.int .u8 0) 1 1 underlying22 hi ac ad ae rfl (by decide) (.slice p6 Q c6) Q _ (by rfl) I.o (.slice pb m cb) m _ (by rfl) Y (zAO _) (by unfold maxLen;omega) (by omega) ?_;clear Y;intro v7 w7 p z C;have X7:=zh (T.o.grown z T.o.size a.o);have F:=zA5 (B:=w.heap.size) C a.o T.o.size;obtain⟨p7,c7,rfl⟩:=OwnR.shape p;rw[←zBt]at p;have H:=zh (af.o w7 (.slice p7 (Q+m) c7) X7.o (by unfold zAk;rw[ag.o];exact p) F);clear z C p F;refine t.o _ _ ((b.o _ X7.o).1) fun c=>?_;clear t;try simp only[uZ]
  refine Pl [17,18] ?_;iterate 2 (refine Pc rfl ?_;simp only[uZ])
  refine Pn ?_;refine oon 19 rfl fun K t=>?_;obtain⟨J,M,V⟩:=b.o _ X7.o;go_wp2_with fail;have ak:(w7.setCell ⟨g,i*3+1,none⟩ (.slice p7 (Q+m) c7)).cell? ⟨r,1,none⟩=some (.slice (some ⟨g,0,none⟩) L.length c0):=(World.cell?_of_block (set_other _ ao.o)).trans J;clear J M V;refine t.o _ _ (ak) fun c=>?_;clear t;try simp only[uZ]
  refine odn ?_;clear c;go_wp2_with fail;refine H.o.mono ?_;intro e w8 hE;have HE:=zh hE;obtain⟨rfl,-⟩:=hE;go_wp2_with fail;go_ret;exact HE.o
end
end Go.Proofs.YtapfnehdgailmaaGreat

/- What the program's functions and the document's do, and plain laws, for PJournalPlays. -/
import Derived.Test.YtapfnehdgailmaaGreatJB
import Derived.Test.YtapfnehdgailmaaGreatJD
import Derived.Test.YtapfnehdgailmaaGreatJL
open Go.Proofs.Tryz
set_option maxRecDepth 100000
set_option maxHeartbeats 64000000
namespace Go.Proofs.YtapfnehdgailmaaGreat
open Go.RowKit Go.Sat Go.Maps
section
variable {w w1 w2:World} {j d:Nat} {pre:ByteArray} {D:zAA} {M:zAJ} {F:Nat→Prop}
theorem rec_cut_ok {k:Nat}{own:Nat→Prop}{g dv:Value}{p:Option Addr}{n c:Nat}{vs:List EV}(f:zBg w2 j d pre own M g dv (.slice p n c) vs)(hS:St w w2 d D (fun k=>own k∨F k))(hn:∀k,own k→w.heap.size≤k∧¬F k)(r:∀k,F k→k<w2.heap.size)
  (t:Same F w1 w2) (b:M.entries.length=n) (m:k≤n) {o:Option zAJ} (s:o=some {M with entries:=M.entries.take k}) (q:Nat):zB6 w w1 j d pre D F o (.returned (.bool true)) ((w2.setCell ⟨j,8,none⟩ (.slice p k c)).drewN q):=by
 obtain⟨i,l⟩:=zAk.turned (D:=D) (F:=F) hS hn r (jouIn_cut f b m (.inr rfl)) ((Chg.setCell w2 ⟨j,8,none⟩ _).mono fun x _ e=>by rw[e];exact f.ol) fun _ h=>.inl h;exact rec_yes (i.drewN q) (t.trans l) s
theorem rec_k4 (h:zAk w w1 j d pre D M F){p:Option Addr}{n c:Nat}{l:Bs}(hx:zAb w1 (.slice p n c) (4::l))(hl:n≤1073741824) :
  Calls prog 155 #[.pointer (some ⟨j,0,none⟩),.bool false,.slice p n c] w1 (zB6 w w1 j d pre D F (zBs false M (4::l))):=by
 obtain⟨i0,ak,-,-,-⟩:=info_parts (show(prog.info? 50).map (fun i=>(i.zero,i.size,i.bytes))=some (some (.agg #[.int .i64 0,.int .i64 0,.slice none 0 0,.slice none 0 0]),4,64) by kernel_rfl);have N:=zh (zBx hx (by obtain⟨_,_,e⟩:=hx.slice;simp only[Value.slice.injEq]at e;omega));have H:=zh h;have HM:=zW (zBs false M (4::l)=(if(Rd.num ⟨l,false⟩).2.whole∧M.number<(Rd.num ⟨l,false⟩).1∧(Rd.num ⟨l,false⟩).1≤M.last+1 then some {M with entries:=M.entries.take ((Rd.num ⟨l,false⟩).1-M.number-1) }else none)) rfl;have aq:=Rd.num_le ⟨l,false⟩;generalize zBs false M (4::l)=O at *;clear h hx
 go_enter func155,ntmps155
 go_wp2_with fail;refine N.o.mono ?_;rintro e w2 ⟨r,rfl,hr,V,U,Q⟩;have ab:=zh (zGH hr);have I:=zh Q;have L:=zh (And.intro V U);clear hr V U Q;go_wp2_with fail;refine ab.o.mono ?_;rintro e w3 ⟨g,q,rfl,hg,C,R⟩;have J:=zW (Below w1.heap.size w1 w3) (I.o.trans (R.below I.o.size fun i hi e=>by have:=L.o.1;omega));have ac:=zh C;have al:=zh C.lt;have ap:w3.cell? ⟨g,0,none⟩=some (.int .u8 4):=hg;clear C R hg;go_wp2_with fail;have HN:=zW (Calls prog 191 #[.pointer (some ⟨r,0,none⟩)] w3 (NumX _ w3 r ⟨l,false⟩)) (by obtain⟨_,_,_,h,ha⟩:=ac.o;exact zCo h ha);refine HN.o.mono ?_;rintro e Y ⟨rfl,T,S⟩;have f:=zW (Below w1.heap.size w1 Y) (J.o.trans (S.below J.o.size fun i hi e=>by have:=L.o.1;omega));have ae:=zh (zCl (H.o.next f.o));have HW:=zh (fun q=>zDc ((T.at.hd).same (w':=Y.drewN q) rfl));have af:=zh (fun q (ho:O=none)=>rec_no (o:=O) H.o (w2:=Y.drewN q) (f.o.trans ⟨rfl,rfl,rfl,Nat.le_refl _,fun _ _=>rfl⟩) ho);have P:=zh (fun q=>And.intro ((H.o.next f.o).drewN q) (show Same F w1 (Y.drewN q)from H.o.same (f.o.trans ⟨rfl,rfl,rfl,Nat.le_refl _,fun _ _=>rfl⟩)));have B:=H.o.okM.last;have HL:=zW (M.last=M.number+M.entries.length) rfl;generalize (Rd.num ⟨l,false⟩).2=R1 at *;generalize (Rd.num ⟨l,false⟩).1=m at *;clear T S;go_wp2_with fail;refine ae.o.mono ?_;rintro e w5 ⟨rfl,q,rfl⟩;have E:=zh (HW.o q);have a:=zh (af.o q);have ad:=zh (P.o q);generalize Y.drewN q=w5 at *;cases y:R1.whole with
 | false =>
  rw[y]at E;have z:=zh (a.o (by rw[HM.o,y,if_neg (by simp)]));clear y;go_wp2_with fail;refine E.o.mono ?_;rintro e Z ⟨rfl,rfl⟩;go_wp2_with fail;go_ret;exact z.o
 | true =>
  rw[y]at E;obtain⟨hj,hs⟩:=ad.o;obtain⟨own,gv,dv,ev,vs,s,hS,hn,t⟩:=hj;have c0:=s.c 0 rfl
  by_cases A:M.number<m
  ·have d1:decide (m≤M.number)=false:=by simpa using A
   have ag:decide ((m:Int)≤(M.number:Int))=false:=by simpa using A
   have au:IntKind.i64.wrap ((M.last:Int)+1)=(M.last:Int)+1:=IntWalk.i64_in _ (by omega)
   by_cases h2:m≤M.last+1
   ·have d2:decide ((M.last:Int)+1<(m:Int))=false:=by simp;omega
    have ah:decide (M.last+1<m)=false:=by simp;omega
    obtain⟨X,G,rfl⟩:=s.row.shape;have aj:M.entries.length≤G:=by
     rcases s.row.2 with⟨e1,e2⟩|⟨g,am,cur,e1,-,e3,-⟩
     ·rw[e2];exact Nat.zero_le _
     ·simp only[Value.slice.injEq]at e1;omega
    have aa:=HL.o;have av:IntKind.i64.wrap ((m:Int)-(M.number:Int))=((m-M.number-1:Nat):Int)+1:=by rw[IntWalk.i64_in _ (by omega)];omega
    have aw:IntKind.i64.wrap (((m-M.number-1:Nat):Int))=((m-M.number-1:Nat):Int):=IntWalk.i64_in _ (by omega);have z:=zh (rec_cut_ok (o:=O) (k:=m-M.number-1) s hS hn t hs rfl (by omega) (by rw[HM.o,y,if_pos ⟨rfl,A,h2⟩]) 1);have ar:∀W,(Instr.slice 78 (.slice X M.entries.length G) none (some (.int .i64 ((m-M.number-1:Nat):Int))) none).run prog W=.ok (.slice X (m-M.number-1) G) W:=fun W=>zB3 W underlying78 ak X _ G _ (by omega);have d8:=s.c 8 rfl;have f8:=s.fr 8;generalize m-M.number-1=k at *;clear y s hS hn t hs A h2 B aa aj;generalize M.last=la at *;generalize M.number=b at *;generalize M.entries.length=ne at *;go_wp2_with fail;refine E.o.mono ?_;rintro e Z ⟨rfl,rfl⟩;go_wp2_with fail;refine zDV [16] (fun w':World=>w'.cell? ⟨j,8,none⟩=some (.slice X ne G)∧w'.cell? ⟨j,0,none⟩=some (.int .i64 (b:Int))) (n:=17) (by kernel_rfl) rfl (⟨d8,c0⟩) fun ai=>?_;refine Gl [0,1,2,3] ?_
    iterate 4 (refine Gp rfl ?_;simp only[uZ])
    refine Gn ?_;refine gtk 4 (v:=?v14x4) rfl ?_;simp only[uZ];refine Gl [5,6,7,8,9] ?_
    iterate 5 (refine Gp rfl ?_;simp only[uZ])
    refine Gn ?_;refine gtk 10 (v:=?v14x10) rfl ?_;simp only[uZ];refine Gl [11,12,13,14,15] ?_
    iterate 5 (refine Gp rfl ?_;simp only[uZ])
    refine Gn ?_;refine g_end 16 rfl (by kernel_rfl) (by rfl) (by kernel_rfl) (fun K hK=>?_);have ao:Z.drew.frozen? ⟨j,8,none⟩=false:=f8;have an:Z.drew.cell? ⟨j,8,none⟩=some (.slice X ne G):=d8;go_wp2_with fail;refine hK.o _ _ ?_;clear hK
    try simp only[uZ]
    refine zEv (by kernel_rfl) ?_ _;go_wp2_with fail;go_ret;exact z.o
   ·have d2:decide ((M.last:Int)+1<(m:Int))=true:=by simp;omega
    have ah:decide (M.last+1<m)=true:=by simp;omega
    have z:=zh (a.o (by rw[HM.o,if_neg (fun e=>h2 e.2.2)]));clear y s hS hn t hs A h2;go_wp2_with fail;refine E.o.mono ?_;rintro e Z ⟨rfl,rfl⟩;go_wp2_with fail;go_ret;exact z.o
  ·have d1:decide (m≤M.number)=true:=by simp;omega
   have ag:decide ((m:Int)≤(M.number:Int))=true:=by simp;omega
   have z:=zh (a.o (by rw[HM.o,if_neg (fun e=>A e.2.1)]));clear y s hS hn t hs A;go_wp2_with fail;refine E.o.mono ?_;rintro e Z ⟨rfl,rfl⟩;go_wp2_with fail;go_ret;exact z.o
theorem rec_nil (h:zAk w w1 j d pre D M F){p:Option Addr}{c:Nat}(f:Bool)(y:zAb w1 (.slice p 0 c) []) :
  Calls prog 155 #[.pointer (some ⟨j,0,none⟩),.bool f,.slice p 0 c] w1 (zB6 w w1 j d pre D F (zBs f M [])):=by
 have g:=zh (zBx y (by simp));have H:=zh h;clear h y
 go_enter func155,ntmps155
 go_wp2_with fail;refine g.o.mono ?_;rintro e w2 ⟨r,rfl,m,B,A,l⟩;obtain⟨J,I,C,m,s⟩:=m;have z:=zh (rawX_calls m s 1 (by decide) (by decide));have b:=zh l;clear m s l;go_wp2_with fail;refine z.o.mono ?_;rintro e w3 ⟨v,rfl,n,-,-,t⟩;have k:Below w1.heap.size w1 w3:=b.o.trans (t.below b.o.size fun i G e=>by omega);have a:Rd.raw ⟨[],false⟩ (1:Int).toNat=([],Rd.fail):=by
  unfold Rd.raw;simp
 rw[a]at n;obtain⟨L,E,rfl,-⟩:=zAL n;have q:=zh (rec_no (o:=zBs f M []) H.o k rfl);clear n t k;cases f with
 | false =>
  go_wp2_with fail;go_ret;exact q.o
 | true =>
  go_wp2_with fail;go_ret;exact q.o
theorem rec_else (h:zAk w w1 j d pre D M F){p:Option Addr}{n c:Nat}{f:Bool}{k:UInt8}{l:Bs}(Y:zAb w1 (.slice p n c) (k::l))(hl:n≤1073741824)(b:f≠decide (k=1)∨(k≠1∧k≠2∧k≠3∧k≠4)) :
  Calls prog 155 #[.pointer (some ⟨j,0,none⟩),.bool f,.slice p n c] w1 (zB6 w w1 j d pre D F (zBs f M (k::l))):=by
 have E:=zh (zBx Y (by obtain⟨_,_,e⟩:=Y.slice;simp only[Value.slice.injEq]at e;omega));have H:=zh h;have hM:zBs f M (k::l)=none:=by
  rcases b with b|⟨s,S,T,U⟩
  ·exact rec1_early b
  ·exact rec1_other s S T U
 have HM:=zh hM;have V:k.toNat<256:=k.toNat_lt;have m:∀z:UInt8,k=z↔k.toNat=z.toNat:=fun z=>⟨fun e=>by rw[e],fun e=>UInt8.toNat.inj e⟩;have t:=m 1;have v:=m 2;have y:=m 3;have a:=m 4;have K:(1:UInt8).toNat=1:=rfl;have e2:(2:UInt8).toNat=2:=rfl;have e3:(3:UInt8).toNat=3:=rfl;have e4:(4:UInt8).toNat=4:=rfl;rw[K]at t;rw[e2]at v;rw[e3]at y;rw[e4]at a;clear m K e2 e3 e4 hM h Y;have X:IntKind.i64.wrap (k.toNat:Int)=(k.toNat:Int):=IntWalk.i64_in _ (by omega)
 go_enter func155,ntmps155
 go_wp2_with fail;refine E.o.mono ?_;rintro e w2 ⟨r,rfl,hr,L,J,G⟩;have Q:=zh (zGH hr);have B:=zh G;have R:=zh (And.intro L J);clear hr L J G;go_wp2_with fail;refine Q.o.mono ?_;rintro e w3 ⟨g,q,rfl,hg,A,I⟩;have O:=zW (Below w1.heap.size w1 w3) (B.o.trans (I.below B.o.size fun i hi e=>by have:=R.o.1;omega));have ab:=zh A;have ac:=zh A.lt;have W:w3.cell? ⟨g,0,none⟩=some (.int .u8 (k.toNat:Int)):=hg;clear A I hg;have P:=zh (rec_no (o:=zBs f M (k::l)) H.o O.o HM.o);have Z:=zh b;have C:=zh (And.intro t (And.intro v (And.intro y a)));clear b t v y a
 by_cases s:k.toNat=1
 ·have b:k=1:=C.o.1.2 s;have hf:f=false:=by
   rcases Z.o with h|h
   ·rw[decide_eq_true b]at h;simpa using h
   ·exact absurd b h.1
  subst hf;rw[s]at W X;clear s b V;go_wp2_with fail;go_ret;exact P.o
 ·have b:¬k=1:=fun e=>s (C.o.1.1 e);have ad:decide (k.toNat=1)=false:=decide_eq_false s;have aa:((k.toNat:Int)==1)=false:=beq_eq_false_iff_ne.2 (by omega);cases f with
  | true =>
   clear b;go_wp2_with fail;go_ret;exact P.o
  | false =>
   have N:k≠1∧k≠2∧k≠3∧k≠4:=by
    rcases Z.o with h|h
    ·exact absurd (decide_eq_false b).symm h
    ·exact h
   have S:¬k.toNat=2:=fun e=>N.2.1 (C.o.2.1.2 e);have T:¬k.toNat=3:=fun e=>N.2.2.1 (C.o.2.2.1.2 e);have U:¬k.toNat=4:=fun e=>N.2.2.2 (C.o.2.2.2.2 e);have q2:decide (k.toNat=2)=false:=decide_eq_false S;have ae:((k.toNat:Int)==2)=false:=beq_eq_false_iff_ne.2 (by omega);have q3:decide (k.toNat=3)=false:=decide_eq_false T;have af:((k.toNat:Int)==3)=false:=beq_eq_false_iff_ne.2 (by omega);have q4:decide (k.toNat=4)=false:=decide_eq_false U;have ag:((k.toNat:Int)==4)=false:=beq_eq_false_iff_ne.2 (by omega);clear b N;go_wp2_with fail;go_ret;exact P.o
end
section
variable {w w1 w2:World} {j d:Nat} {pre:ByteArray} {D:zAA} {M:zAJ} {F:Nat→Prop}
theorem rec_trm_ok (h:zAk w w2 j d pre D M F)(m:Same F w1 w2){t v:Int}(k:M.mayVote t v=true)(b:0≤t){o:Option zAJ}(l:o=some {M with now:=t,vote:=v}) :
  zB6 w w1 j d pre D F o (.returned (.bool true)) ((w2.setCell ⟨j,5,none⟩ (.int .i64 t)).setCell ⟨j,6,none⟩ (.int .i64 v)):=by
 obtain⟨-,c,f⟩:=zF8 k;obtain⟨g,i⟩:=jou_set56 h t v (zAs.2 ⟨b,c⟩) f;exact rec_yes g (m.trans i) l
theorem rec_k2 (h:zAk w w1 j d pre D M F){p:Option Addr}{n c:Nat}{l:Bs}(hx:zAb w1 (.slice p n c) (2::l))(hl:n≤1073741824) :
  Calls prog 155 #[.pointer (some ⟨j,0,none⟩),.bool false,.slice p n c] w1 (zB6 w w1 j d pre D F (zBs false M (2::l))):=by
 obtain⟨i0,ax,aB,aC,aD⟩:=info_parts (show(prog.info? 3).map (fun i=>(i.zero,i.size,i.bytes))=some (some (.int .i64 0),1,8) by kernel_rfl);have ac:=zh (zBx hx (by obtain⟨_,_,e⟩:=hx.slice;simp only[Value.slice.injEq]at e;omega));have H:=zh h;have HM:=zh (show zBs false M (2::l)=(if(Rd.num ⟨l,false⟩).2.num.2.whole&&M.mayVote ((Rd.num ⟨l,false⟩).1:Int) (((Rd.num ⟨l,false⟩).2.num.1:Int)-1)then
    some {M with now:=((Rd.num ⟨l,false⟩).1:Int),vote:=(((Rd.num ⟨l,false⟩).2.num.1:Int)-1) }else none)from rfl)
 have ay:=Rd.num_le ⟨l,false⟩;have az:=Rd.num_le (Rd.num ⟨l,false⟩).2;have HI:=zW (Rd.ints 2 ⟨l,false⟩=([((Rd.num ⟨l,false⟩).1:Int),((Rd.num ⟨l,false⟩).2.num.1:Int)],(Rd.num ⟨l,false⟩).2.num.2)) rfl;generalize zBs false M (2::l)=O at *;generalize (Rd.num ⟨l,false⟩).1=S at *;generalize (Rd.num ⟨l,false⟩).2.num.1=b at *;generalize (Rd.num ⟨l,false⟩).2.num.2=R3 at *;clear h hx
 go_enter func155,ntmps155
 go_wp2_with fail;refine ac.o.mono ?_;rintro e w2 ⟨r,rfl,hr,ak,E,af⟩;have ao:=zh (zGH hr);have Y:=zh af;have aa:=zh (And.intro ak E);clear hr ak E af;go_wp2_with fail;refine ao.o.mono ?_;rintro e w3 ⟨g,q,rfl,hg,V,ag⟩;have z:=zW (Below w1.heap.size w1 w3) (Y.o.trans (ag.below Y.o.size fun i X e=>by have:=aa.o.1;omega));have ap:=zh V;have K:=zh V.lt;have av:w3.cell? ⟨g,0,none⟩=some (.int .u8 2):=hg;clear V ag hg;go_wp2_with fail;have E:=K.o;have f:(((w3.alloc (.cells #[.int .i64 0] 3)).alloc (.cells #[.int .i64 0] 3)).alloc (.cells #[.pointer (some ⟨w3.heap.size,0,none⟩),.pointer (some ⟨w3.heap.size+1,0,none⟩)] 204)).heap[w3.heap.size]?=some (.cells #[.int .i64 0] 3):=zBB _ (zBB _ (zAI w3 _));have m:(((w3.alloc (.cells #[.int .i64 0] 3)).alloc (.cells #[.int .i64 0] 3)).alloc (.cells #[.pointer (some ⟨w3.heap.size,0,none⟩),.pointer (some ⟨w3.heap.size+1,0,none⟩)] 204)).heap[w3.heap.size+1]?=some (.cells #[.int .i64 0] 3):=zBB _ (by have:=zAI (w3.alloc (.cells #[.int .i64 0] 3)) (.cells #[.int .i64 0] 3);simpa using this);have ai:(((w3.alloc (.cells #[.int .i64 0] 3)).alloc (.cells #[.int .i64 0] 3)).alloc (.cells #[.pointer (some ⟨w3.heap.size,0,none⟩),.pointer (some ⟨w3.heap.size+1,0,none⟩)] 204)).heap[w3.heap.size+2]?=some (.cells #[.pointer (some ⟨w3.heap.size,0,none⟩),.pointer (some ⟨w3.heap.size+1,0,none⟩)] 204):=by have:=zAI ((w3.alloc (.cells #[.int .i64 0] 3)).alloc (.cells #[.int .i64 0] 3)) (.cells #[.pointer (some ⟨w3.heap.size,0,none⟩),.pointer (some ⟨w3.heap.size+1,0,none⟩)] 204);simpa using this
 have HP:=zW (zDN (((w3.alloc (.cells #[.int .i64 0] 3)).alloc (.cells #[.int .i64 0] 3)).alloc (.cells #[.pointer (some ⟨w3.heap.size,0,none⟩),.pointer (some ⟨w3.heap.size+1,0,none⟩)] 204)) r [⟨w3.heap.size,0,none⟩,⟨w3.heap.size+1,0,none⟩]) (by
  refine⟨fun a y=>?_,fun a y=>?_,fun a y=>?_,fun a y=>?_⟩
  all_goals
   simp only[List.mem_cons,List.not_mem_nil,or_false]at y;rcases y with rfl|rfl
  ·exact⟨_,zAG f rfl⟩
  ·exact⟨_,zAG m rfl⟩
  ·exact zAE f 0
  ·exact zAE m 0
  ·intro e;have e2:w3.heap.size=r:=e;omega
  ·intro e;have e2:w3.heap.size+1=r:=e;omega
  ·rfl
  ·rfl)
 have HN:=zh (zEW (R:=⟨l,false⟩) (((ap.o.chg (Chg.alloc w3 (.cells #[.int .i64 0] 3)) (fun e=>e) fun _ _ e=>e).chg (Chg.alloc _ (.cells #[.int .i64 0] 3)) (fun e=>e) fun _ _ e=>e).chg (Chg.alloc _ (.cells #[.pointer (some ⟨w3.heap.size,0,none⟩),.pointer (some ⟨w3.heap.size+1,0,none⟩)] 204)) (fun e=>e) fun _ _ e=>e) (g:=w3.heap.size+2) (c:=2) HP.o (by simp) (fun i a X=>by
  refine zAG ai ?_
  match i,X with
  | 0,X=>cases X;rfl
  | 1,X=>cases X;rfl) (fun e=>by omega) (fun a y e=>by
   simp only[List.mem_cons,List.not_mem_nil,or_false]at y;rcases y with rfl|rfl
   ·have e3:w3.heap.size=w3.heap.size+2:=e;omega
   ·have e3:w3.heap.size+1=w3.heap.size+2:=e;omega) (fun k hk=>⟨by omega,fun a y e=>by
   simp only[List.mem_cons,List.not_mem_nil,or_false]at y;rcases y with rfl|rfl
   ·have e3:k=w3.heap.size:=e;omega
   ·have e3:k=w3.heap.size+1:=e;omega⟩))
 have am:=zW (Below w1.heap.size w1 (((w3.alloc (.cells #[.int .i64 0] 3)).alloc (.cells #[.int .i64 0] 3)).alloc (.cells #[.pointer (some ⟨w3.heap.size,0,none⟩),.pointer (some ⟨w3.heap.size+1,0,none⟩)] 204))) (((z.o.alloc z.o.size (.cells #[.int .i64 0] 3)).alloc (by have:=z.o.size;simp;omega) (.cells #[.int .i64 0] 3)).alloc (by have:=z.o.size;simp;omega) (.cells #[.pointer (some ⟨w3.heap.size,0,none⟩),.pointer (some ⟨w3.heap.size+1,0,none⟩)] 204));have an:=zh (And.intro f (And.intro m (show(((w3.alloc (.cells #[.int .i64 0] 3)).alloc (.cells #[.int .i64 0] 3)).alloc (.cells #[.pointer (some ⟨w3.heap.size,0,none⟩),.pointer (some ⟨w3.heap.size+1,0,none⟩)] 204)).heap.size=w3.heap.size+3 by simp)));clear f m ai E;go_wp2_with fail;refine HN.o.mono ?_;rintro e I ⟨rfl,W,ah,N⟩;have ae:Below w1.heap.size w1 I:=by
  have hs:=z.o.size;have hr:=aa.o.1;refine(((Chg.of_below am.o).mono fun _ _ e=>e.elim:Chg (fun k=>w1.heap.size≤k) w1 _).trans ah fun k _ e=>?_).below (Nat.le_refl _) fun k hk e=>by omega
  rcases e with rfl|⟨a,y,rfl⟩
  ·exact hr
  ·simp only[List.mem_cons,List.not_mem_nil,or_false]at y;rcases y with rfl|rfl
   ·exact hs
   ·show w1.heap.size≤w3.heap.size+1
    omega
 rw[show [(⟨w3.heap.size,0,none⟩:Addr),⟨w3.heap.size+1,0,none⟩].length=2 from rfl,HI.o]at W N;obtain⟨f,m,aw⟩:=an.o;have E:=K.o;have G:I.heap[w3.heap.size]?=some (.cells #[.int .i64 (S:Int)] 3 (0,0)):=by
  rw[N _ (by omega) (by omega)];refine(set_other (w:=World.setCell _ ⟨w3.heap.size,0,none⟩ (.int .i64 (S:Int))) (.int .i64 (b:Int)) (by show w3.heap.size≠w3.heap.size+1;omega)).trans ?_;have:=zAC f 0 (.int .i64 (S:Int));simpa using this
 have s:I.heap[w3.heap.size+1]?=some (.cells #[.int .i64 (b:Int)] 3 (0,0)):=by
  rw[N _ (by omega) (by omega)];have h0:=(set_other (w:=(((w3.alloc (.cells #[.int .i64 0] 3)).alloc (.cells #[.int .i64 0] 3)).alloc (.cells #[.pointer (some ⟨w3.heap.size,0,none⟩),.pointer (some ⟨w3.heap.size+1,0,none⟩)] 204))) (a:=⟨w3.heap.size,0,none⟩) (.int .i64 (S:Int)) (show w3.heap.size+1≠w3.heap.size by omega)).trans m;have:=zAC h0 0 (.int .i64 (b:Int));rw[show(#[Value.int IntKind.i64 0]:Array Value).setIfInBounds 0 (.int .i64 (b:Int))=#[.int .i64 (b:Int)]from rfl]at this;exact this
 have al:=zh ae;have aq:=zh W;have aj:w3.heap.size≠r:=by omega
 have P:w3.heap.size+1≠r:=by omega
 have HQ:=zh (And.intro G (And.intro s (And.intro (And.intro aj P) (show w1.heap.size≤w3.heap.size from z.o.size))));clear W ah N ae f m aw E G s aj P av;generalize w3.heap.size=a at *;obtain⟨G,s,-,au⟩:=HQ.o;have c1:=zAU s;have f1:=zAE s 0;have aA:IntKind.i64.wrap ((b:Int)-1)=(b:Int)-1:=IntWalk.i64_in _ (by omega);have A:(I.setCell ⟨a+1,0,none⟩ (.int .i64 ((b:Int)-1))).heap[a]?=some (.cells #[.int .i64 (S:Int)] 3 (0,0)):=(set_other _ (by show a≠a+1;omega)).trans G;have B:(I.setCell ⟨a+1,0,none⟩ (.int .i64 ((b:Int)-1))).heap[a+1]?=some (.cells #[.int .i64 ((b:Int)-1)] 3 (0,0)):=by
  have:=zAC s 0 (.int .i64 ((b:Int)-1));simpa using this
 have HW:=zh (zDc ((aq.o.at.hd).same (w':=I.setCell ⟨a+1,0,none⟩ (.int .i64 ((b:Int)-1))) (set_other _ (fun e=>HQ.o.2.2.1.2 e.symm))));have C:Below w1.heap.size w1 (I.setCell ⟨a+1,0,none⟩ (.int .i64 ((b:Int)-1))):=(((Chg.of_below al.o).mono fun _ _ e=>e.elim:Chg (fun k=>k=a+1) w1 I).trans (Chg.setCell I ⟨a+1,0,none⟩ _) fun k _ e=>e).below (Nat.le_refl _) fun k hk e=>by omega
 have J:=zh (jmv_calls (H.o.next C) (S:Int) ((b:Int)-1));have ab:=zh (fun(ho:O=none)=>rec_no (o:=O) H.o C ho);have ad:=zh (fun L ho=>rec_trm_ok (o:=O) (H.o.next C) (H.o.same C) (t:=(S:Int)) (v:=(b:Int)-1) L (by omega) ho);have T:=zh (And.intro A B);obtain⟨own,gv,dv,ev,vs,hJ,-⟩:=H.o.next C;have ar:=zh (And.intro hJ.cells (And.intro (hJ.c 5 rfl) (hJ.c 6 rfl)));clear C A B G s au hJ;go_wp2_with fail;clear c1 f1;generalize I.setCell ⟨a+1,0,none⟩ (.int .i64 ((b:Int)-1))=w5 at *;cases Q:R3.whole with
 | false =>
  rw[Q]at HW;have Z:=zh (ab.o (by rw[HM.o,Q];rfl));clear Q;refine HW.o.mono ?_;rintro e w7 ⟨rfl,rfl⟩;go_wp2_with fail;go_ret;exact Z.o
 | true =>
  rw[Q]at HW;refine HW.o.mono ?_;rintro e w7 ⟨rfl,rfl⟩;obtain⟨A,B⟩:=T.o;have d0:=zAU A;have d1:=zAU B;cases L:M.mayVote (S:Int) ((b:Int)-1)with
  | false =>
   rw[L]at J;have Z:=zh (ab.o (by rw[HM.o,Q,L];rfl));clear Q L A B;go_wp2_with fail;refine J.o.mono ?_;rintro e w8 ⟨rfl,rfl⟩;go_wp2_with fail;go_ret;exact Z.o
  | true =>
   rw[L]at J;have Z:=zh (ad.o L (by rw[HM.o,Q,L];rfl));clear Q L A B;go_wp2_with fail;refine J.o.mono ?_;rintro e w8 ⟨rfl,rfl⟩;obtain⟨U,c5,c6⟩:=ar.o;have g5:=zAE U 5;have g6:=zAE U 6;clear U;go_wp2_with fail;go_ret;exact Z.o
end
theorem rdbytes_len (R:Rd):R.bytes.1.length≤R.rest.length:=by
 have h:=zDX 1 R;rw[show(Rd.ints 1 R).2=R.num.2 from rfl]at h;rw[show R.bytes=R.num.2.raw R.num.1 from rfl];unfold Rd.raw
 split
 ·simp only[List.length_take];omega
 ·exact Nat.zero_le _
theorem grpany_len (R:Rd):(R.grp anyG).1.length≤7:=by
 by_cases h:7<R.num.1
 ·rw[grp_big h];simp
 ·rw[zDW h]
  show(Rd.ints R.num.1 R.num.2).1.length≤7
  rw[zCz];omega
section
variable {w w1 w2:World} {j d:Nat} {pre:ByteArray} {D:zAA} {M:zAJ} {F:Nat→Prop}
theorem rec_ent_ok {own own':Nat→Prop}{c dv g ev':Value}{vs vs':List EV}{e:Ent}(f:zBg w1 j d pre own M c dv g vs)(hS:St w w1 d D (fun k=>own k∨F k))(hn:∀k,own k→w.heap.size≤k∧¬F k)(m:∀k,F k→k<w1.heap.size)
  (b:zBg w2 j d pre own' {M with entries:=M.entries++[e] } c dv ev' vs') (hc:Chg own w1 w2) (hx:∀k,own' k→own k∨w1.heap.size≤k) {o:Option zAJ} (ho:o=some {M with entries:=M.entries++[e] }):zB6 w w1 j d pre D F o (.returned (.bool true)) w2:=by
 obtain⟨i,l⟩:=zAk.turned (D:=D) (F:=F) hS hn m b hc hx;exact rec_yes i l ho
theorem rec_k3 (h:zAk w w1 j d pre D M F){p:Option Addr}{n c:Nat}{l:Bs}(C:zAb w1 (.slice p n c) (3::l))(hl:n≤1073741824) :
  Calls prog 155 #[.pointer (some ⟨j,0,none⟩),.bool false,.slice p n c] w1 (zB6 w w1 j d pre D F (zBs false M (3::l))):=by
 obtain⟨i0,cd,ci,cj,ck⟩:=info_parts (show(prog.info? 3).map (fun i=>(i.zero,i.size,i.bytes))=some (some (.int .i64 0),1,8) by kernel_rfl);obtain⟨i4,bQ,bw,bA,bB⟩:=info_parts (show(prog.info? 50).map (fun i=>(i.zero,i.size,i.bytes))=some (some (.agg #[.int .i64 0,.int .i64 0,.slice none 0 0,.slice none 0 0]),4,64) by kernel_rfl);have bS:l.length≤1073741824:=by
  obtain⟨_,_,e⟩:=C.slice;simp only[Value.slice.injEq,List.length_cons]at e;omega
 have ba:=zh (zBx C (by rw[List.length_cons];omega));have H:=zh h;have HM:=zh (show zBs false M (3::l)=(if((Rd.ints 3 ⟨l,false⟩).2.bytes.2.grp anyG).2.whole∧(Rd.num ⟨l,false⟩).1=M.last+1∧(Rd.num ⟨l,false⟩).1≤1099511627776∧zA1 ⟨((Rd.num ⟨l,false⟩).2.num.1:Int),((Rd.num ⟨l,false⟩).2.num.2.num.1:Int),(Rd.ints 3 ⟨l,false⟩).2.bytes.1,((Rd.ints 3 ⟨l,false⟩).2.bytes.2.grp anyG).1⟩then
    some {M with entries:=M.entries++[⟨((Rd.num ⟨l,false⟩).2.num.1:Int),((Rd.num ⟨l,false⟩).2.num.2.num.1:Int),(Rd.ints 3 ⟨l,false⟩).2.bytes.1,((Rd.ints 3 ⟨l,false⟩).2.bytes.2.grp anyG).1⟩] }else none)from rfl)
 have cf:=Rd.num_le ⟨l,false⟩;have cg:=Rd.num_le (Rd.num ⟨l,false⟩).2;have ch:=Rd.num_le (Rd.num ⟨l,false⟩).2.num.2;have HI:=zW (Rd.ints 3 ⟨l,false⟩=([((Rd.num ⟨l,false⟩).1:Int),((Rd.num ⟨l,false⟩).2.num.1:Int),((Rd.num ⟨l,false⟩).2.num.2.num.1:Int)],(Rd.ints 3 ⟨l,false⟩).2)) rfl;have ca:(Rd.ints 3 ⟨l,false⟩).2.bytes.1.length≤1073741824:=Nat.le_trans (rdbytes_len _) (Nat.le_trans (zDX 3 ⟨l,false⟩) bS);have cc:=grpany_len (Rd.ints 3 ⟨l,false⟩).2.bytes.2;generalize zBs false M (3::l)=O at *;generalize (Rd.num ⟨l,false⟩).1=U at *;generalize (Rd.num ⟨l,false⟩).2.num.1=E at *;generalize (Rd.num ⟨l,false⟩).2.num.2.num.1=I at *;generalize (Rd.ints 3 ⟨l,false⟩).2=R3 at *;clear h C
 go_enter func155,ntmps155
 go_wp2_with fail;refine ba.o.mono ?_;rintro e w2 ⟨r,rfl,hr,bu,aa,bm⟩;have bH:=zh (zGH hr);have aT:=zh bm;have an:=zh (And.intro bu aa);clear hr bu aa bm;go_wp2_with fail;refine bH.o.mono ?_;rintro e w3 ⟨g,q,rfl,hg,aP,bn⟩;have ab:=zW (Below w1.heap.size w1 w3) (aT.o.trans (bn.below aT.o.size fun i hi e=>by have:=an.o.1;omega));have bI:=zh aP;have aW:=zh aP.lt;have bR:w3.cell? ⟨g,0,none⟩=some (.int .u8 3):=hg;clear aP bn hg;go_wp2_with fail;have aa:=aW.o;have Y:(((w3.alloc (.cells #[.int .i64 0] 3)).alloc (.cells #[.int .i64 0,.int .i64 0,.slice none 0 0,.slice none 0 0] 50)).alloc (.cells #[.pointer (some ⟨w3.heap.size,0,none⟩),.pointer (some ⟨w3.heap.size+1,0,none⟩),.pointer (some ⟨w3.heap.size+1,1,none⟩)] 204)).heap[w3.heap.size]?=some (.cells #[.int .i64 0] 3):=zBB _ (zBB _ (zAI w3 _));have N:(((w3.alloc (.cells #[.int .i64 0] 3)).alloc (.cells #[.int .i64 0,.int .i64 0,.slice none 0 0,.slice none 0 0] 50)).alloc (.cells #[.pointer (some ⟨w3.heap.size,0,none⟩),.pointer (some ⟨w3.heap.size+1,0,none⟩),.pointer (some ⟨w3.heap.size+1,1,none⟩)] 204)).heap[w3.heap.size+1]?=some (.cells #[.int .i64 0,.int .i64 0,.slice none 0 0,.slice none 0 0] 50):=zBB _ (by have:=zAI (w3.alloc (.cells #[.int .i64 0] 3)) (.cells #[.int .i64 0,.int .i64 0,.slice none 0 0,.slice none 0 0] 50);simpa using this);have bq:(((w3.alloc (.cells #[.int .i64 0] 3)).alloc (.cells #[.int .i64 0,.int .i64 0,.slice none 0 0,.slice none 0 0] 50)).alloc (.cells #[.pointer (some ⟨w3.heap.size,0,none⟩),.pointer (some ⟨w3.heap.size+1,0,none⟩),.pointer (some ⟨w3.heap.size+1,1,none⟩)] 204)).heap[w3.heap.size+2]?=some (.cells #[.pointer (some ⟨w3.heap.size,0,none⟩),.pointer (some ⟨w3.heap.size+1,0,none⟩),.pointer (some ⟨w3.heap.size+1,1,none⟩)] 204):=by have:=zAI ((w3.alloc (.cells #[.int .i64 0] 3)).alloc (.cells #[.int .i64 0,.int .i64 0,.slice none 0 0,.slice none 0 0] 50)) (.cells #[.pointer (some ⟨w3.heap.size,0,none⟩),.pointer (some ⟨w3.heap.size+1,0,none⟩),.pointer (some ⟨w3.heap.size+1,1,none⟩)] 204);simpa using this
 have HP:=zW (zDN (((w3.alloc (.cells #[.int .i64 0] 3)).alloc (.cells #[.int .i64 0,.int .i64 0,.slice none 0 0,.slice none 0 0] 50)).alloc (.cells #[.pointer (some ⟨w3.heap.size,0,none⟩),.pointer (some ⟨w3.heap.size+1,0,none⟩),.pointer (some ⟨w3.heap.size+1,1,none⟩)] 204)) r [⟨w3.heap.size,0,none⟩,⟨w3.heap.size+1,0,none⟩,⟨w3.heap.size+1,1,none⟩]) (by
  refine⟨fun a T=>?_,fun a T=>?_,fun a T=>?_,fun a T=>?_⟩
  all_goals
   simp only[List.mem_cons,List.not_mem_nil,or_false]at T;rcases T with rfl|rfl|rfl
  ·exact⟨_,zAG Y rfl⟩
  ·exact⟨_,zAG N rfl⟩
  ·exact⟨_,zAG N rfl⟩
  ·exact zAE Y 0
  ·exact zAE N 0
  ·exact zAE N 1
  ·intro e;have e2:w3.heap.size=r:=e;omega
  ·intro e;have e2:w3.heap.size+1=r:=e;omega
  ·intro e;have e2:w3.heap.size+1=r:=e;omega
  ·rfl
  ·rfl
  ·rfl)
 have HN:=zh (zEW (R:=⟨l,false⟩) (((bI.o.chg (Chg.alloc w3 (.cells #[.int .i64 0] 3)) (fun e=>e) fun _ _ e=>e).chg (Chg.alloc _ (.cells #[.int .i64 0,.int .i64 0,.slice none 0 0,.slice none 0 0] 50)) (fun e=>e) fun _ _ e=>e).chg (Chg.alloc _ (.cells #[.pointer (some ⟨w3.heap.size,0,none⟩),.pointer (some ⟨w3.heap.size+1,0,none⟩),.pointer (some ⟨w3.heap.size+1,1,none⟩)] 204)) (fun e=>e) fun _ _ e=>e) (g:=w3.heap.size+2) (c:=3) HP.o (by simp) (fun i a hi=>by
  refine zAG bq ?_
  match i,hi with
  | 0,hi=>cases hi;rfl
  | 1,hi=>cases hi;rfl
  | 2,hi=>cases hi;rfl) (fun e=>by omega) (fun a T e=>by
   simp only[List.mem_cons,List.not_mem_nil,or_false]at T;rcases T with rfl|rfl|rfl
   ·have e3:w3.heap.size=w3.heap.size+2:=e;omega
   ·have e3:w3.heap.size+1=w3.heap.size+2:=e;omega
   ·have e3:w3.heap.size+1=w3.heap.size+2:=e;omega) (fun k s=>⟨by omega,fun a T e=>by
   simp only[List.mem_cons,List.not_mem_nil,or_false]at T;rcases T with rfl|rfl|rfl
   ·have e3:k=w3.heap.size:=e;omega
   ·have e3:k=w3.heap.size+1:=e;omega
   ·have e3:k=w3.heap.size+1:=e;omega⟩))
 have bD:=zW (Below w1.heap.size w1 (((w3.alloc (.cells #[.int .i64 0] 3)).alloc (.cells #[.int .i64 0,.int .i64 0,.slice none 0 0,.slice none 0 0] 50)).alloc (.cells #[.pointer (some ⟨w3.heap.size,0,none⟩),.pointer (some ⟨w3.heap.size+1,0,none⟩),.pointer (some ⟨w3.heap.size+1,1,none⟩)] 204))) (((ab.o.alloc ab.o.size (.cells #[.int .i64 0] 3)).alloc (by have:=ab.o.size;simp;omega) (.cells #[.int .i64 0,.int .i64 0,.slice none 0 0,.slice none 0 0] 50)).alloc (by have:=ab.o.size;simp;omega) (.cells #[.pointer (some ⟨w3.heap.size,0,none⟩),.pointer (some ⟨w3.heap.size+1,0,none⟩),.pointer (some ⟨w3.heap.size+1,1,none⟩)] 204));have bF:=zh (And.intro Y (And.intro N (show(((w3.alloc (.cells #[.int .i64 0] 3)).alloc (.cells #[.int .i64 0,.int .i64 0,.slice none 0 0,.slice none 0 0] 50)).alloc (.cells #[.pointer (some ⟨w3.heap.size,0,none⟩),.pointer (some ⟨w3.heap.size+1,0,none⟩),.pointer (some ⟨w3.heap.size+1,1,none⟩)] 204)).heap.size=w3.heap.size+3 by simp)));clear Y N bq aa;go_wp2_with fail;refine HN.o.mono ?_;rintro e w4 ⟨rfl,aQ,bo,av⟩;have be:Below w1.heap.size w1 w4:=by
  have hs:=ab.o.size;have hr:=an.o.1;refine(((Chg.of_below bD.o).mono fun _ _ e=>e.elim:Chg (fun k=>w1.heap.size≤k) w1 _).trans bo fun k _ e=>?_).below (Nat.le_refl _) fun k s e=>by omega
  rcases e with rfl|⟨a,T,rfl⟩
  ·exact hr
  ·simp only[List.mem_cons,List.not_mem_nil,or_false]at T;rcases T with rfl|rfl|rfl
   ·exact hs
   ·show w1.heap.size≤w3.heap.size+1
    omega
   ·show w1.heap.size≤w3.heap.size+1
    omega
 rw[show([⟨w3.heap.size,0,none⟩,⟨w3.heap.size+1,0,none⟩,⟨w3.heap.size+1,1,none⟩]:List Addr).length=3 from rfl,HI.o]at aQ av;obtain⟨Y,N,bU⟩:=bF.o;have aa:=aW.o;have S:w4.heap[w3.heap.size]?=some (.cells #[.int .i64 (U:Int)] 3 (0,0)):=by
  rw[av _ (by omega) (by omega)];refine(set_other (w:=World.setCell _ ⟨w3.heap.size+1,0,none⟩ (.int .i64 (E:Int))) (.int .i64 (I:Int)) (by show w3.heap.size≠w3.heap.size+1;omega)).trans ?_;refine(set_other (w:=World.setCell _ ⟨w3.heap.size,0,none⟩ (.int .i64 (U:Int))) (.int .i64 (E:Int)) (by show w3.heap.size≠w3.heap.size+1;omega)).trans ?_;have:=zAC Y 0 (.int .i64 (U:Int));simpa using this
 have y:w4.heap[w3.heap.size+1]?=some (.cells #[.int .i64 (E:Int),.int .i64 (I:Int),(.slice none 0 0),(.slice none 0 0)] 50 (0,0)):=by
  rw[av _ (by omega) (by omega)];have h0:=(set_other (w:=(((w3.alloc (.cells #[.int .i64 0] 3)).alloc (.cells #[.int .i64 0,.int .i64 0,.slice none 0 0,.slice none 0 0] 50)).alloc (.cells #[.pointer (some ⟨w3.heap.size,0,none⟩),.pointer (some ⟨w3.heap.size+1,0,none⟩),.pointer (some ⟨w3.heap.size+1,1,none⟩)] 204))) (a:=⟨w3.heap.size,0,none⟩) (.int .i64 (U:Int)) (show w3.heap.size+1≠w3.heap.size by omega)).trans N;have h1:=zAC h0 0 (.int .i64 (E:Int));have h2:=zAC h1 1 (.int .i64 (I:Int));rw[show((#[Value.int IntKind.i64 0,.int .i64 0,.slice none 0 0,.slice none 0 0]:Array Value).setIfInBounds 0 (.int .i64 (E:Int))).setIfInBounds 1 (.int .i64 (I:Int))=#[.int .i64 (E:Int),.int .i64 (I:Int),.slice none 0 0,.slice none 0 0]from rfl]at h2;exact h2
 have aF:=zh be;have bT:w3.heap.size≠r:=by omega
 have aB:w3.heap.size+1≠r:=by omega
 have aD:r<w3.heap.size:=aa;have bp:w1.heap.size≤w3.heap.size:=ab.o.size;have bE:=zh (zGG aQ);clear aQ bo av be Y N bU aa bR;generalize w3.heap.size=a at *;have HS:=zh (And.intro aB (And.intro aD bp));clear bT aB aD bp;have X:=zh (And.intro S y);clear S y;go_wp2_with fail;refine bE.o.mono ?_;rintro e w5 ⟨v5,rfl,aw,aN,aR,ar⟩;have bf:Below w1.heap.size w1 w5:=aF.o.trans (ar.below aF.o.size fun k s e=>by have:=an.o.1;omega);have S:=(ar.block a (zAB X.o.1) (by have:=HS.o.2.1;omega)).trans X.o.1;have y:=(ar.block (a+1) (zAB X.o.2) (fun e=>HS.o.1 e)).trans X.o.2;have bC:=zh bf;have bJ:=zW (∀k,v5.ownBlock=some k→k≠r) (fun k s e=>by
  have h1:=aN k s;have h3:=zAB X.o.1;have h4:=HS.o.2.1;omega)
 have ae:=zh (And.intro aw (show ∀k,v5.ownBlock=some k→w1.heap.size≤k∧k≠a∧k≠a+1 from fun k s=>by
  have h1:=aN k s;have h2:=aF.o.size;have h3:=zAB X.o.1;have h4:=zAB X.o.2;exact⟨by omega,by omega,by omega⟩))
 generalize bZ:R3.bytes.1=b at *;generalize R3.bytes.2=R4 at *;obtain⟨z,t,e5,-⟩:=zAL aw;subst e5;have c2:=zAX y;have f2:=zAE y 2;have h6:=zAC y 2 (.slice z b.length t);rw[show(#[Value.int IntKind.i64 (E:Int),.int .i64 (I:Int),.slice none 0 0,.slice none 0 0]:Array Value).setIfInBounds 2 (.slice z b.length t)=#[.int .i64 (E:Int),.int .i64 (I:Int),(.slice z b.length t),.slice none 0 0]from rfl]at h6;have bc:(w5.setCell ⟨a+1,2,none⟩ (.slice z b.length t)).heap[a]?=some (.cells #[.int .i64 (U:Int)] 3 (0,0)):=(set_other _ (by show a≠a+1;omega)).trans S;have ac:=zh (And.intro bc h6);have HG:=zh (readGrp_any (A:=fun k=>w1.heap.size≤k∧k<r) (w:=w5.setCell ⟨a+1,2,none⟩ (.slice z b.length t)) (aR.chg (Chg.setCell w5 ⟨a+1,2,none⟩ (.slice z b.length t)) (fun e=>HS.o.1 (show r=a+1 from e).symm) fun k s e=>by have:=HS.o.2.1;have e2:k=a+1:=e;omega) (fun k s=>⟨Nat.lt_of_lt_of_le (show k<w5.heap.size by have:=aR.lt;omega) (Chg.setCell w5 ⟨a+1,2,none⟩ (.slice z b.length t)).size,by omega⟩));have ag:=zW (Below w1.heap.size w1 (w5.setCell ⟨a+1,2,none⟩ (.slice z b.length t))) ((((Chg.of_below bC.o).mono fun _ _ e=>e.elim:Chg (fun k=>k=a+1) w1 w5).trans (Chg.setCell w5 ⟨a+1,2,none⟩ _) fun k _ e=>e).below (Nat.le_refl _) fun k s e=>by have:=HS.o.2.2;omega);have ay:=zW (zAi (w5.setCell ⟨a+1,2,none⟩ (.slice z b.length t)) 5 (.slice z b.length t) b) (OwnR.keep aw fun k s=>set_other _ fun e=>(ae.o.2 k s).2.2 e);clear aw aN aR ar bf S y h6 bc;go_wp2_with fail;clear c2 f2;generalize w5.setCell ⟨a+1,2,none⟩ (.slice z b.length t)=cl at *;refine HG.o.mono ?_;rintro e w6 ⟨v6,rfl,aS,aO,bt,ai⟩;have bg:Below w1.heap.size w1 w6:=ag.out.trans (ai.below ag.out.size fun k s e=>by have:=an.o.1;omega);have S:=(ai.block a (zAB ac.o.1) (by have:=HS.o.2.1;omega)).trans ac.o.1;have y:=(ai.block (a+1) (zAB ac.o.2) (fun e=>HS.o.1 e)).trans ac.o.2;have aE:zAi w6 5 (.slice z b.length t) b:=OwnR.keep ay.out fun k s=>ai.block k (OwnR.lt ay.out s) fun e=>by
  have h1:=aO;have h2:=ae.o.2 k s;have h3:=HS.o.2.1;have h4:=ae.o.2 k s;have h5:=bJ.o k s;exact h5 e
 have aG:=zW (∀k,v6.ownBlock=some k→w1.heap.size≤k∧k≠a∧k≠a+1) (fun k s=>by
  have h1:=aO k s;have h2:=ag.out.size;have h3:=zAB ac.o.1;have h4:=zAB ac.o.2;exact⟨by omega,by omega,by omega⟩)
 generalize (R4.grp anyG).1=B at *;generalize (R4.grp anyG).2=R5 at *;obtain⟨P,J,e6,-⟩:=zAw aS;subst e6;have c3:=zAf y;have f3:=zAE y 3;have h7:=zAC y 3 (.slice P B.length J);rw[show(#[Value.int IntKind.i64 (E:Int),.int .i64 (I:Int),(.slice z b.length t),.slice none 0 0]:Array Value).setIfInBounds 3 (.slice P B.length J)=#[.int .i64 (E:Int),.int .i64 (I:Int),(.slice z b.length t),(.slice P B.length J)]from rfl]at h7;have bd:(w6.setCell ⟨a+1,3,none⟩ (.slice P B.length J)).heap[a]?=some (.cells #[.int .i64 (U:Int)] 3 (0,0)):=(set_other _ (by show a≠a+1;omega)).trans S;have bh:Below w1.heap.size w1 (w6.setCell ⟨a+1,3,none⟩ (.slice P B.length J)):=(((Chg.of_below bg).mono fun _ _ e=>e.elim:Chg (fun k=>k=a+1) w1 w6).trans (Chg.setCell w6 ⟨a+1,3,none⟩ _) fun k _ e=>e).below (Nat.le_refl _) fun k s e=>by have:=HS.o.2.2;omega
 have bG:=zh (And.intro bd h7);have aU:=zh bh;have bL:=zh ((bt.at.hd).same (w':=w6.setCell ⟨a+1,3,none⟩ (.slice P B.length J)) (set_other _ fun e=>HS.o.1 (show r=a+1 from e).symm));have bK:=zW (zDM (w6.setCell ⟨a+1,3,none⟩ (.slice P B.length J)) (⟨(E:Int),(I:Int),b,B⟩:Ent) ((.slice z b.length t),(.slice P B.length J))) (⟨OwnR.keep aE fun k s=>set_other _ fun e=>(ae.o.2 k s).2.2 e,OwnR.keep aS fun k s=>set_other _ fun e=>(aG.o k s).2.2 e⟩);clear aS aE aO bt ai bg S y h7 bd bh;go_wp2_with fail;clear c3 f3;generalize w6.setCell ⟨a+1,3,none⟩ (.slice P B.length J)=af at *;have bM:=zh (zCl (H.o.next aU.o));refine bM.o.mono ?_;rintro e w7 ⟨rfl,q,rfl⟩;have V:=zW (Below w1.heap.size w1 (af.drewN q)) (aU.o.trans ⟨rfl,rfl,rfl,Nat.le_refl _,fun _ _=>rfl⟩);have HW:=zh (zDc (bL.o.same (w':=af.drewN q) rfl));have ap:(af.drewN q).heap[a]?=some (.cells #[.int .i64 (U:Int)] 3 (0,0))∧(af.drewN q).heap[a+1]?=some (.cells #[.int .i64 (E:Int),.int .i64 (I:Int),(.slice z b.length t),(.slice P B.length J)] 50 (0,0)):=bG.o;have HU:=zW (zDM (af.drewN q) (⟨(E:Int),(I:Int),b,B⟩:Ent) ((.slice z b.length t),(.slice P B.length J))) (bK.o.keep fun _ _=>rfl);generalize af.drewN q=w7 at *;have ad:=zh ap;have ao:=zh (fun w8 (hb:Below w1.heap.size w1 w8) (ho:O=none)=>rec_no (o:=O) H.o hb ho);have aM:=H.o.okM.last;cases hw:R5.whole with
 | false =>
  rw[hw]at HW;have HE:=zh (ao.o w7 V.o (by rw[HM.o,hw,if_neg (by simp)]));clear hw ap;go_wp2_with fail;refine HW.o.mono ?_;rintro e w8 ⟨rfl,rfl⟩;go_wp2_with fail;go_ret;exact HE.o
 | true =>
  rw[hw]at HW;have Hw:=zh hw;have q0:=zAU ap.1;have bV:IntKind.i64.wrap ((M.last:Int)+1)=(M.last:Int)+1:=IntWalk.i64_in _ (by omega);clear hw ap
  by_cases h1:U=M.last+1
  ·by_cases h2:U≤1099511627776
   ·have d1:((U:Int) != (M.last:Int)+1)=false:=by simp;omega
    have d2:decide ((1099511627776:Int)<(U:Int))=false:=by simp;omega
    have bN:decide (1099511627776<U)=false:=by simp;omega
    have e0:=zAU ad.o.2;have e1:=zAY ad.o.2;have e2:=zAX ad.o.2;have e3:=zAf ad.o.2;have az:=zh (isone_calls (HU.o.has (show b.length≤1099511627776 by omega) (show B.length≤1099511627776 by omega)));unfold zCf at az;have am:=zh (And.intro h1 h2);clear h1 h2;go_wp2_with fail;refine HW.o.mono ?_;rintro e w8 ⟨rfl,rfl⟩;go_wp2_with fail;refine az.o.mono ?_;rintro e w9 ⟨rfl,G⟩;have bX:=zh G;cases au:zA1 (⟨(E:Int),(I:Int),b,B⟩:Ent)with
    | false =>
     have HE:=zh (ao.o w9 (V.o.trans (G.mono V.o.size)) (by rw[HM.o,au,if_neg (by simp)]));clear au G;go_wp2_with fail;go_ret;exact HE.o
    | true =>
     have aZ:=zh au;have h9:=G;obtain⟨own,gv,dv,ev,us,hJ,hS,al,aj⟩:=H.o;have ah:=V.o.trans (h9.mono V.o.size);have Q:=hJ.below ah;obtain⟨pe,ce,rfl⟩:=hJ.row.shape;have c8:=Q.c 8 rfl;have aK:=(h9.block (a+1) (zAB ad.o.2)).trans ad.o.2;have HJ:=zh (And.intro hJ (And.intro hS (And.intro al aj)));have ax:=zh ah;have br:M.entries.length≤M.last:=by unfold zAJ.last;omega
     have bW:=zh aK;have aX:=zh (HU.o.keep fun k s=>h9.block k (HU.o.lt s));have aC:M.last+1≤1099511627776:=by have:=am.o.1;have:=am.o.2;omega
     have aH:=zh (And.intro br aC);have Hm:=zW (M.entries.length=M.entries.length) rfl;clear au G hJ hS al aj ah Q h9 e0 e1 e2 e3 q0 br aC bV aM;generalize bs:M.entries.length=m at *;clear Hm;have Hm:=zh bs;clear bs;go_wp2_with fail;refine zDV [10] (fun w':World=>w'.cell? ⟨j,8,none⟩=some (.slice pe m ce)∧w'.heap[a+1]?=some (.cells #[.int .i64 (E:Int),.int .i64 (I:Int),(.slice z b.length t),(.slice P B.length J)] 50 (0,0))) (n:=11) (by kernel_rfl) rfl (⟨c8,aK⟩) fun f=>?_;have aV:=zW (Below w9.heap.size w9 w9.drew) (⟨rfl,rfl,rfl,by simp,fun _ _=>rfl⟩);clear c8 aK;generalize bY:w9.drew=Wd at *;refine Gl [0,1,2,3] ?_
     iterate 4 (refine Gp rfl ?_;simp only[uZ])
     refine Gn ?_;refine gtk 4 (v:=?v23x4) rfl ?_;simp only[uZ];refine zEw 5 (v:=.agg #[.int .i64 (E:Int),.int .i64 (I:Int),(.slice z b.length t),(.slice P B.length J)]) rfl (by kernel_rfl) (by kernel_rfl) (by kernel_rfl) (by kernel_rfl) (fun _ _ _ h=>h) (by rfl) (by assumption) (fun W aq=>by have q0:=zAU aq.2;have q1:=zAY aq.2;have q2:=zAX aq.2;have q3:=zAf aq.2;go_simp;try with_reducible rfl) ?_;simp only[uZ];refine zEM 6 rfl (by kernel_rfl) (by rfl) (fun K hK=>?_);have aY:=zh (And.intro (zBQ f.1 (.cells #[.int .i64 (E:Int),.int .i64 (I:Int),(.slice z b.length t),(.slice P B.length J)] 50 (0,0))) ((zC8 _ (.cells #[.int .i64 (E:Int),.int .i64 (I:Int),(.slice z b.length t),(.slice P B.length J)] 50 (0,0)) (zAB f.2)).trans f.2));go_wp2_with fail;refine hK.o _ _ (aY.o) fun f=>?_;clear hK
     try simp only[uZ]
     refine zEM 7 rfl (by kernel_rfl) (by rfl) (fun K hK=>?_);obtain⟨hJ,hS,al,aj⟩:=HJ.o;have G:=ax.o.trans (aV.o.mono ax.o.size);have Q:=hJ.below G;have bl:=aX.o.keep fun k s=>aV.o.block k (aX.o.lt s);have aL:=zAD Wd (.cells #[.int .i64 (E:Int),.int .i64 (I:Int),(.slice z b.length t),(.slice P B.length J)] 50 (0,0));have aJ:=(Q.below aL).row;rw[Hm.o]at aJ;have bv:zAK (Wd.alloc (.cells #[.int .i64 (E:Int),.int .i64 (I:Int),(.slice z b.length t),(.slice P B.length J)] 50 (0,0))) 4 (.slice (some ⟨Wd.heap.size,0,none⟩) 1 1) 1 (zEq (⟨(E:Int),(I:Int),b,B⟩:Ent) ((.slice z b.length t),(.slice P B.length J))):=⟨rfl,some ⟨Wd.heap.size,0,none⟩,1,rfl,fun e=>(by cases e),fun a T i u hu=>by
      cases T;rw[add_zero];refine zAG (zAI Wd _) ?_;simpa[zEq]using hu⟩
     refine zAm (.tmp 137) (.tmp 139) 78 rfl 50 i4 (.agg #[.int .i64 0,.int .i64 0,.slice none 0 0,.slice none 0 0]) 4 64 underlying78 bQ bw bA bB rfl (by decide) _ m _ rfl aJ (.slice (some ⟨Wd.heap.size,0,none⟩) 1 1) 1 _ rfl bv (by simp[zEq,Value.oneCell']) (by unfold maxLen;have:=aH.o;omega) (by have:=aH.o;omega) ?_;intro v3 w3 Z L ak;obtain⟨bi,bj,bk,aI⟩:=jouIn_push Q bl (fun x C ho=>by
      have h2:=hJ.olt x ho;rcases C with C|C
      ·have:=(ae.o.2 x C).1;omega
      ·have:=(aG.o x C).1;omega) aZ.o aH.o.2 aL (by rw[Hm.o];exact Z) L ak
     have HE:=zh (rec_ent_ok (o:=O) hJ hS al aj bi (((Chg.of_below G).mono fun _ _ h=>h.elim).trans bj fun _ _ h=>h) (fun x C=>by
      rcases C with C|C|C
      ·exact .inl C
      ·rcases C with C|C
       ·exact .inr (ae.o.2 x C).1
       ·exact .inr (aG.o x C).1
      ·exact(bk x C).imp id fun h=>Nat.le_trans G.size h) (by rw[HM.o,if_pos ⟨Hw.o,am.o.1,am.o.2,aZ.o⟩]))
     have aA:∀x,(Value.slice pe m ce).ownBlock=some x→x≠a+1:=fun x C e=>by have:=hJ.olt x (hJ.oe x C).1;have:=HS.o.2.2;omega
     have bP:w3.cell? ⟨j,8,none⟩=some (.slice pe m ce):=zAG (aI.trans Q.cells) (i:=8) rfl;have cb:w3.frozen? ⟨j,8,none⟩=false:=zAE (aI.trans Q.cells) 8;have bO:w3.heap[a+1]?=some (.cells #[.int .i64 (E:Int),.int .i64 (I:Int),(.slice z b.length t),(.slice P B.length J)] 50 (0,0)):=(L.block _ (zAB f.2) fun e=>aA _ e.symm rfl).trans f.2;obtain⟨p3,q3,rfl⟩:=OwnR.shape Z;clear hJ hS al aj Q aL aJ bv Z L ak bi bj bk aI aA G bl;refine hK.o _ _ ⟨bP,bO⟩ fun f=>?_;clear hK
     try simp only[uZ]
     refine Gl [8,9] ?_
     iterate 2 (refine Gp rfl ?_;simp only[uZ])
     refine Gn ?_;refine g_end 10 rfl (by kernel_rfl) (by rfl) (by kernel_rfl) (fun K hK=>?_);go_wp2_with fail;refine hK.o _ _ ?_;clear hK
     try simp only[uZ]
     refine zEv (by kernel_rfl) ?_ _;go_wp2_with fail;go_ret;exact HE.o
   ·have d2:decide ((1099511627776:Int)<(U:Int))=true:=by simp;omega
    have bN:decide (1099511627776<U)=true:=by simp;omega
    have d1:((U:Int) != (M.last:Int)+1)=false:=by simp;omega
    have HE:=zh (ao.o w7 V.o (by rw[HM.o,if_neg (fun e=>h2 e.2.2.1)]));clear h1 h2;go_wp2_with fail;refine HW.o.mono ?_;rintro e w8 ⟨rfl,rfl⟩;go_wp2_with fail;go_ret;exact HE.o
  ·have d1:((U:Int) != (M.last:Int)+1)=true:=by simp;omega
   have HE:=zh (ao.o w7 V.o (by rw[HM.o,if_neg (fun e=>h1 e.2.1)]));clear h1;go_wp2_with fail;refine HW.o.mono ?_;rintro e w8 ⟨rfl,rfl⟩;go_wp2_with fail;go_ret;exact HE.o
end
section
variable {w w1 w2:World} {j d:Nat} {pre:ByteArray} {D:zAA} {M:zAJ} {F:Nat→Prop}
theorem record_calls (h:zAk w w1 j d pre D M F)(f:Bool)(t:f=true→M.entries=[]){p:Option Addr}{n c:Nat}{b:Bs}(g:zAb w1 (.slice p n c) b)(o:b.length≤1073741824) :
  Calls prog 155 #[.pointer (some ⟨j,0,none⟩),.bool f,.slice p n c] w1 (zB6 w w1 j d pre D F (zBs f M b)):=by
 have hn:n=b.length:=by
  obtain⟨_,_,e⟩:=g.slice;simp only[Value.slice.injEq]at e;exact e.2.1
 subst hn;cases b with
 | nil=>exact rec_nil h f g
 | cons k l =>
  by_cases i:f≠decide (k=1)
  ·exact rec_else h g o (.inl i)
  ·have i:f=decide (k=1):=by simpa using i
   by_cases m:k=1
   ·subst m;rw[i];exact rec_k1 h g o (t (by rw[i];rfl))
   ·rw[decide_eq_false m]at i;subst i
    by_cases q:k=2
    ·subst q;exact rec_k2 h g o
    ·by_cases r:k=3
     ·subst r;exact rec_k3 h g o
     ·by_cases s:k=4
      ·subst s;exact rec_k4 h g o
      ·exact rec_else h g o (.inr ⟨m,q,r,s⟩)
end
end Go.Proofs.YtapfnehdgailmaaGreat

/- What the program's functions and the document's do, and plain laws, for PJournalPlays. -/
import Derived.Test.YtapfnehdgailmaaGreatJB
import Derived.Test.YtapfnehdgailmaaGreatJQ
open Go.Proofs.Tryz
set_option maxRecDepth 100000
set_option maxHeartbeats 64000000
namespace Go.Proofs.YtapfnehdgailmaaGreat
open Go.RowKit Go.Sat Go.Maps
theorem zCq {P:Program}{f:FuncId}{args:Array Value}{w:World}{n:Nat}{v:Value}(h:Calls P f args (w.drewN n) fun e w'=>e=.returned v∧∃q,w'=(w.drewN n).drewN q):Calls P f args (w.drewN n) fun e b=>e=.returned v∧∃m,b=w.drewN m :=
 h.mono fun _ _ ⟨c,q,d⟩=>⟨c,n+q,by rw[d,World.drewN_drewN]⟩
theorem run_window {P:Program}(W:World)(t e:TypeId)(j:P.underlying t=some (.slice e))(n:∀w,(Go.sizeOf e).run P w=.ok 1 w)(b o g c l h:Nat)(m:l≤h)(p:h≤c)(q:l<c) :
  (Instr.slice t (.slice (some ⟨b,o,none⟩) g c) (some (.int .i64 (l:Int))) (some (.int .i64 (h:Int))) none).run P W=.ok (.slice (some ⟨b,o+l,none⟩) (h-l) (c-l)) W:=by
 have f:P.underlying t=some (.slice (P.elem t)):=by simp[Program.elem,j]
 have k:P.elem t=e:=by simp[Program.elem,j]
 rw[run_slice_lh W t _ _ _ f .i64 .i64 _ _ (by omega) (by omega) (by omega),k,n];have d:¬c=l:=by omega
 by_cases i:l=0
 ·subst i;simp[Result.andThen,sliced,Addr.add,d]
 ·simp[Result.andThen,sliced,Addr.add,d,i]
theorem zAr (w:World)(n:Nat):Below w.heap.size w (w.drewN n):=⟨rfl,rfl,rfl,Nat.le_refl _,fun _ _=>rfl⟩
theorem zDg {w W:World}(h:Below w.heap.size w W)(n:Nat):Below w.heap.size w (W.drewN n):=h.trans ⟨rfl,rfl,rfl,Nat.le_refl _,fun _ _=>rfl⟩
theorem rdec_calls {w:World}{p:Option Addr}{n c:Nat}{b:Bs}(h:zAb w (.slice p n c) b)(R:n≤c)(hl:b.length≤140737488355328) :
  Calls prog 165 #[.slice p n c] w (zEE w b):=by
 have hn:n=b.length:=(zCV h).1;subst hn;obtain⟨i0,I,K,C,aa⟩:=info_parts (show(prog.info? 5).map (fun i=>(i.zero,i.size,i.bytes))=some (some (.int .u8 0),1,1) by kernel_rfl)
 by_cases H:b.length<8
 ·have d:=zh (zBW (w:=w) (w':=w) (b:=b) (k:=2) (by unfold decE;rw[if_pos H]) (by decide) (Below.refl _ _));generalize hN:b.length=N at *;clear hN h
  go_enter func165,ntmps165
  go_wp2_with fail
  go_ret3
  exact d.o
 ·have E:0<b.length:=by omega
  rcases h.at with e|⟨g,o,c2,e,-⟩
  ·rw[e]at E;simp at E
  cases e;have J:=zh (fun(W:World) (s:Below w.heap.size w W)=>rfour_at (zAb.from (h.below s) (k:=4) (by omega) (c-4)) (by rw[List.length_drop];omega));have L:=zh (fun(W:World) (s:Below w.heap.size w W)=>zFS (zAb.cut (h.below s) (k:=4) (by omega) c) (by rw[List.length_take];omega));have ae:∀W,(Instr.slice 22 (.slice (some ⟨g,o,none⟩) b.length c) (some (.int .i64 4)) none none).run prog W=.ok (.slice (some ⟨g,o+4,none⟩) (b.length-4) (c-4)) W:=fun W=>run_from W underlying22 I C g o b.length c 4 (by omega) R (by omega);have af:∀W,(Instr.slice 22 (.slice (some ⟨g,o,none⟩) b.length c) none (some (.int .i64 4)) none).run prog W=.ok (.slice (some ⟨g,o,none⟩) 4 c) W:=fun W=>zB3 W underlying22 I _ _ c 4 (by omega)
  by_cases G:fourAt (b.drop 4)=sumN (b.take 4)
  ·have f:=(head_iff (b:=b) (by omega)).2 G;have ac:((fourAt (b.drop 4):Int) != sumF (b.take 4))=false:=by rw[zDH];simp;omega
   have S:=zh (fun(W:World) (s:Below w.heap.size w W)=>rfour_at (h.below s) (by omega))
   by_cases T:1048576<fourAt b
   ·have d:=zh (fun W=>zBW (w:=w) (w':=W) (b:=b) (k:=5) (by unfold decE;rw[if_neg H,if_neg (by simpa using f),if_pos T]) (by decide));have Q:=zDU b;generalize fourAt (b.drop 4)=x at *;generalize sumF (b.take 4)=y at *;generalize fourAt b=z at *;generalize b.length=N at *;clear h G f
    go_enter func165,ntmps165
    go_wp2_with fail
    go_quiet ((first|(go_at_call 197;refine zCq (J.o _ (zAr _ _)))|(go_at_call 184;refine Calls.quiet_of_same (L.o _ (zAr _ _)))))
    go_wp2_with fail;refine(S.o _ (zAr _ _)).mono ?_;rintro e w2 ⟨rfl,q2,rfl⟩;go_wp2_with fail
    go_ret3
    exact d.o _ (zAr _ _)
   ·by_cases Z:b.length<fourAt b+12
    ·have d:=zh (fun W=>zBW (w:=w) (w':=W) (b:=b) (k:=2) (by unfold decE;rw[if_neg H,if_neg (by simpa using f),if_neg T,if_pos Z]) (by decide));have Q:=zDU b;generalize fourAt (b.drop 4)=x at *;generalize sumF (b.take 4)=y at *;generalize fourAt b=z at *;generalize b.length=N at *;clear h G f
     go_enter func165,ntmps165
     go_wp2_with fail
     go_quiet ((first|(go_at_call 197;refine zCq (J.o _ (zAr _ _)))|(go_at_call 184;refine Calls.quiet_of_same (L.o _ (zAr _ _)))))
     go_wp2_with fail;refine(S.o _ (zAr _ _)).mono ?_;rintro e w2 ⟨rfl,q2,rfl⟩;go_wp2_with fail
     go_ret3
     exact d.o _ (zAr _ _)
    ·have Q:=zDU b;have H8:=zh (fun(W:World) (s:Below w.heap.size w W)=>rfour_at (zAb.from (h.below s) (k:=8+fourAt b) (by omega) (c-(8+fourAt b))) (by rw[List.length_drop];omega));have M:=zh (fun(W:World) (s:Below w.heap.size w W)=>zFS (zAb.cut (h.below s) (k:=8+fourAt b) (by omega) c) (by rw[List.length_take];omega));have V:=zW (∀W,Below w.heap.size w W→zAK W 1 (.slice (some ⟨g,o+8,none⟩) (fourAt b) (c-8)) (fourAt b) (zAR ((b.drop 8).take (fourAt b)))) (fun W s=>by
      have X:=zAb.cut (zAb.from (h.below s) (k:=8) (by omega) (c-8)) (k:=fourAt b) (by rw[List.length_drop];omega) (c-8);unfold zAb at X;rw[List.length_take,List.length_drop,Nat.min_eq_left (by omega)]at X;exact X)
     have ag:∀W,(Instr.slice 22 (.slice (some ⟨g,o,none⟩) b.length c) (some (.int .i64 (8+(fourAt b:Int)))) none none).run prog W=.ok (.slice (some ⟨g,o+(8+fourAt b),none⟩) (b.length-(8+fourAt b)) (c-(8+fourAt b))) W:=fun W=>by
      have:=run_from (P:=prog) W underlying22 I C g o b.length c (8+fourAt b) (by omega) R (by omega);rwa[show((8+fourAt b:Nat):Int)=8+(fourAt b:Int) by omega]at this
     have ah:∀W,(Instr.slice 22 (.slice (some ⟨g,o,none⟩) b.length c) none (some (.int .i64 (8+(fourAt b:Int)))) none).run prog W=.ok (.slice (some ⟨g,o,none⟩) (8+fourAt b) c) W:=fun W=>by
      have:=zB3 (P:=prog) W underlying22 I (some ⟨g,o,none⟩) b.length c (8+fourAt b) (by omega);rwa[show((8+fourAt b:Nat):Int)=8+(fourAt b:Int) by omega]at this
     have ai:∀W,(Instr.slice 22 (.slice (some ⟨g,o,none⟩) b.length c) (some (.int .i64 8)) (some (.int .i64 (8+(fourAt b:Int)))) none).run prog W=.ok (.slice (some ⟨g,o+8,none⟩) (fourAt b) (c-8)) W:=fun W=>by
      have:=run_window (P:=prog) W 22 5 underlying22 (fun w=>by simp[sizeOf,typeInfo,I,C]) g o b.length c 8 (8+fourAt b) (by omega) (by omega) (by omega);rwa[show((8+fourAt b:Nat):Int)=8+(fourAt b:Int) by omega,Nat.add_sub_cancel_left]at this
     have aj:IntKind.i64.wrap (8+(fourAt b:Int))=8+(fourAt b:Int):=IntWalk.i64_in _ ⟨by omega,by omega⟩;have ab:IntKind.i64.wrap (12+(fourAt b:Int))=12+(fourAt b:Int):=IntWalk.i64_in _ ⟨by omega,by omega⟩
     by_cases U:fourAt (b.drop (8+fourAt b))=sumN (b.take (8+fourAt b))
     ·have Y:decE b=0:=by unfold decE;rw[if_neg H,if_neg (by simpa using f),if_neg T,if_neg Z,if_neg (by simpa using U)]
      have d:=zW (∀v W,OwnR W 5 1 v (fourAt b) (zAR ((b.drop 8).take (fourAt b)))→(∀k,v.ownBlock=some k→w.heap.size≤k)→Below w.heap.size w W→zEE w b (.returned (.tuple #[v,.int .i64 (12+(fourAt b:Int)),.int .i64 0])) W) (fun v W ho hn s =>
       ⟨v,by unfold decL;rw[Y,if_pos rfl,show((fourAt b+12:Nat):Int)=12+(fourAt b:Int) by omega];rfl,by
        unfold decB;rw[if_pos Y];unfold zAi;rw[List.length_take,List.length_drop,Nat.min_eq_left (by omega)];exact ho,hn,s⟩)
      have O:((fourAt (b.drop (8+fourAt b)):Int) != sumF (b.take (8+fourAt b)))=false:=by rw[zDH];simp;omega
      generalize fourAt (b.drop (8+fourAt b))=x2 at *;generalize sumF (b.take (8+fourAt b))=y2 at *;generalize fourAt (b.drop 4)=x at *;generalize sumF (b.take 4)=y at *;generalize hz:fourAt b=z at *;generalize b.length=N at *;clear h G f U Y hz
      go_enter func165,ntmps165
      go_wp2_with fail
      go_quiet ((first|(go_at_call 197;refine zCq (J.o _ (zAr _ _)))|(go_at_call 184;refine Calls.quiet_of_same (L.o _ (zAr _ _)))))
      go_wp2_with fail;refine(S.o _ (zAr _ _)).mono ?_;rintro e w2 ⟨rfl,q2,t⟩;have q:=zh (show Below w.heap.size w w2 by rw[t];exact zDg (zAr _ _) _);clear t;go_wp2_with fail
      go_quiet ((first|(go_at_call 197;refine zCq (H8.o _ (zDg q.o _)))|(go_at_call 184;refine Calls.quiet_of_same (M.o _ (zDg q.o _)))))
      have a:=zh (zDg q.o nq);generalize w2.drewN nq=w5 at *;have A:=zh (a.o.alloc a.o.size (.cells #[] 5));go_wp2_with (at_builtin;refine zAO (w5.alloc (.cells #[] 5)) rfl (.tmp 37) (.tmp 41) 22 rfl 5 i0 (.int .u8 0) 1 1 underlying22 I K C aa rfl (by decide) (.slice (some ⟨w5.heap.size,0,none⟩) 0 0) 0 [] rfl (zAx w5 _) (.slice (some ⟨g,o+8,none⟩) z (c-8)) z _ rfl (V.o _ A.o) (zAN _) (by unfold maxLen;omega) (by omega) ?_;intro ak al l m r;rw[Nat.zero_add,List.nil_append]at l;have hX:=A.o.grown m A.o.size (fun j e=>by have:=a.o.size;simp[Value.ownBlock]at e;omega);have D:=zA0 (B:=w.heap.size) r (fun k hk=>by have:=a.o.size;simp[Value.ownBlock]at hk;omega) A.o.size;have F:=zh (And.intro hX (And.intro l D));clear l m r hX D)
      go_ret3
      exact d.o _ _ F.o.2.1 F.o.2.2 F.o.1
     ·have d:=zh (fun W=>zBW (w:=w) (w':=W) (b:=b) (k:=4) (by unfold decE;rw[if_neg H,if_neg (by simpa using f),if_neg T,if_neg Z,if_pos U]) (by decide));have O:((fourAt (b.drop (8+fourAt b)):Int) != sumF (b.take (8+fourAt b)))=true:=by rw[zDH];simp;omega
      generalize fourAt (b.drop (8+fourAt b))=x2 at *;generalize sumF (b.take (8+fourAt b))=y2 at *;generalize fourAt (b.drop 4)=x at *;generalize sumF (b.take 4)=y at *;generalize fourAt b=z at *;generalize b.length=N at *;clear h G f U
      go_enter func165,ntmps165
      go_wp2_with fail
      go_quiet ((first|(go_at_call 197;refine zCq (J.o _ (zAr _ _)))|(go_at_call 184;refine Calls.quiet_of_same (L.o _ (zAr _ _)))))
      go_wp2_with fail;refine(S.o _ (zAr _ _)).mono ?_;rintro e w2 ⟨rfl,q2,t⟩;have q:=zh (show Below w.heap.size w w2 by rw[t];exact zDg (zAr _ _) _);clear t;go_wp2_with fail
      go_quiet ((first|(go_at_call 197;refine zCq (H8.o _ (zDg q.o _)))|(go_at_call 184;refine Calls.quiet_of_same (M.o _ (zDg q.o _)))))
      go_wp2_with fail
      go_ret3
      exact d.o _ (zDg q.o _)
  ·have d:=zh (fun W=>zBW (w:=w) (w':=W) (b:=b) (k:=4) (by unfold decE;rw[if_neg H,if_pos (fun e=>G ((head_iff (by omega)).1 e))]) (by decide));have ad:((fourAt (b.drop 4):Int) != sumF (b.take 4))=true:=by rw[zDH];simp;omega
   generalize fourAt (b.drop 4)=x at *;generalize sumF (b.take 4)=y at *;generalize b.length=N at *;clear h G
   go_enter func165,ntmps165
   go_wp2_with fail
   go_quiet ((first|(go_at_call 197;refine zCq (J.o _ (zAr _ _)))|(go_at_call 184;refine Calls.quiet_of_same (L.o _ (zAr _ _)))))
   go_wp2
   go_ret3
   exact d.o _ (zAr _ _)
theorem rone_calls {w:World}{p:Option Addr}{n c:Nat}{b:Bs}(h:zAb w (.slice p n c) b)(r:n≤c)(z:b.length≤140737488355328) :
  Calls prog 162 #[.slice p n c] w (OneOf w b):=by
 have hn:n=b.length:=(zCV h).1;subst hn;have y:=zh (rdec_calls h r z);have q:decL b≤4294967307:=by
  have:=zDU b;unfold decL
  split<;>omega
 clear h
 go_enter func162,ntmps162
 go_wp2_with fail;refine y.o.mono ?_;rintro e w1 ⟨v,rfl,m,g,f⟩
 by_cases i:decE b=0
 ·by_cases l:decL b=b.length
  ·have j:oneE b=0:=by unfold oneE;rw[if_pos i,if_pos l]
   have d:=zW (OneOf w b (.returned (.tuple #[v,.int .i64 0])) w1) (⟨v,by rw[j];rfl,by unfold oneB;rw[if_pos j];exact m,g,f⟩);rw[i,l];generalize b.length=N at *;clear m g f i l j q;go_wp2_with fail
   go_ret2
   exact d.o
  ·have d:=zh (one_nil (w:=w) (w':=w1) (b:=b) (k:=3) (by unfold oneE;rw[if_pos i,if_neg l]) (by decide) f);have s:((decL b:Int) != (b.length:Int))=true:=by
    simp only[bne_iff_ne,ne_eq,Int.natCast_inj];exact l
   rw[i];generalize decL b=M at *;generalize b.length=N at *;clear m g f i l;go_wp2_with fail
   go_ret2
   exact d.o
 ·have j:oneE b=decE b:=by unfold oneE;rw[if_neg i]
  have d:=zh (one_nil (w:=w) (w':=w1) (b:=b) (k:=decE b) j i f);have s:((decE b:Int)==0)=false:=by simp;omega
  have t:((decE b:Int) != 0)=true:=by simp;omega
  generalize decE b=E at *;generalize decL b=M at *;generalize b.length=N at *;clear m g f j;go_wp2_with fail
  go_ret2
  exact d.o
end Go.Proofs.YtapfnehdgailmaaGreat
namespace Go.Sat
open Go Go.RowKit
theorem zE5 {P:Program}(w:World){t e:TypeId}{i:TypeInfo}(j:P.underlying t=some (.slice e))(g:P.info? e=some i)(p:Option Addr)(c b k:Nat)(h:k≤c)(l:c≤b) :
  (Instr.slice t (.slice p c b) (some (.int .i64 (k:Int))) none none).run P w=.ok (.slice (if b-k=0 then p else p.map fun x=>x.add (k*i.size)) (c-k) (b-k)) w:=by
 have f:(Instr.sliceBound (.int .i64 (k:Int)) c .sliceB).run P w=.ok k w:=by
  rw[run_sliceBound _ _ _ _ _ (by omega) (by omega)];simp
 simp[Instr.slice,run_underlying j,Instr.sliceBounds,f,sizeOf,typeInfo,g,Result.andThen]
 by_cases d:b=k
 ·rw[if_pos d,if_pos (by omega)]
 ·rw[if_neg d,if_neg (by omega)]
theorem zAK.upto {w:World}{size:Nat}{p:Option Addr}{n c:Nat}{xs:List Value}(h:zAK w size (.slice p n c) n xs){k:Nat}(m:k≤n)(d:Nat):zAK w size (.slice p k d) k (xs.take (k*size)):=by
 obtain⟨o,q,f,e,g,l⟩:=h;cases e;refine⟨by rw[List.length_take,o];exact Nat.min_eq_left (Nat.mul_le_mul_right _ m),p,d,rfl,fun e=>?_,fun a j i u b=>l a j i u ?_⟩
 ·have:=g e;omega
 ·rw[List.getElem?_take]at b
  split at b
  ·exact b
  ·cases b
theorem OwnR.cut_from {w:World}{e:TypeId}{size:Nat}{p:Option Addr}{n c:Nat}{xs:List Value}(h:OwnR w e size (.slice p n c) n xs){k:Nat}(y:k≤n):zAK w size (.slice (if c-k=0 then p else p.map fun x=>x.add (k*size)) (n-k) (c-k)) (n-k) (xs.drop (k*size)):=by
 have d:(xs.drop (k*size)).length=(n-k)*size:=by rw[List.length_drop,h.1,Nat.sub_mul]
 rcases h.2 with⟨e,hn⟩|⟨g,o,cur,e,v,s,_⟩
 ·cases e;have j:k=0:=by omega
  subst j;exact⟨d,none,0,by simp,fun _=>rfl,fun a b=>by cases b⟩
 ·cases e
  by_cases m:c-k=0
  ·rw[if_pos m];have l:n-k=0:=by omega
   rw[l]at d ⊢;have t:xs.drop (k*size)=[]:=List.eq_nil_of_length_eq_zero (by rw[d];simp);rw[t];exact⟨by simp,_,_,rfl,fun e=>(by cases e),fun a b i u f=>by simp at f⟩
  ·rw[if_neg m];refine⟨d,_,_,rfl,fun e=>(by cases e),fun a b i u f=>?_⟩;cases b;have q:(⟨g,0,none⟩:Addr).add (k*size)=⟨g,k*size,none⟩:=add_zero _ _;have r:(⟨g,k*size,none⟩:Addr).add i=⟨g,k*size+i,none⟩:=by unfold Addr.add;split<;>simp_all
   show w.cell? (((⟨g,0,none⟩:Addr).add (k*size)).add i)=some u
   rw[q,r];rw[List.getElem?_drop]at f;have:=h.cells (g:=g) rfl (k*size+i) u f;rwa[add_zero]at this
end Go.Sat
namespace Go.Proofs.YtapfnehdgailmaaGreat
open Go.RowKit Go.Sat Go.Maps
theorem cells_take (L:List zAQ)(i:Nat):(L.take i).flatMap zAQ.cells=(L.flatMap zAQ.cells).take (i*3):=by
 induction L generalizing i with
 | nil=>simp
 | cons y r ih =>
  cases i with
  | zero=>simp
  | succ i =>
   have b:y.cells.length=3:=rfl;rw[List.take_succ_cons,List.flatMap_cons,List.flatMap_cons,ih i,List.take_append,List.take_of_length_le (l:=y.cells) (by omega)]
   congr 2
   omega
theorem cells_drop (L:List zAQ)(i:Nat):(L.drop i).flatMap zAQ.cells=(L.flatMap zAQ.cells).drop (i*3):=by
 induction L generalizing i with
 | nil=>simp
 | cons y r ih =>
  cases i with
  | zero=>simp
  | succ i =>
   have b:y.cells.length=3:=rfl;rw[List.drop_succ_cons,List.flatMap_cons,ih i,List.drop_append,List.drop_of_length_le (l:=y.cells) (by omega),List.nil_append]
   congr 1
   omega
section
variable {w:World} {r:Nat} {v:Value} {L:List zAQ} {own:Nat→Prop} {D:zAA} {room:Nat} {fuse:Option Nat}
theorem cells_one {L:List zAQ}(h:∀x∈L,x.b.oneCell'=true):∀u∈L.flatMap zAQ.cells,u.oneCell'=true:=by
 intro u d;obtain⟨x,f,c⟩:=List.mem_flatMap.1 d;simp only[zAQ.cells,List.mem_cons,List.not_mem_nil,or_false]at c;rcases c with rfl|rfl|rfl
 ·rfl
 ·exact h x f
 ·rfl
theorem zAy.one (h:zAy w r v L own room fuse):∀x∈L,x.b.oneCell'=true:=fun x d=>by
 obtain⟨p,c,e,_⟩:=zDY (h.data x d);rw[e];rfl
theorem zAy.relist (h:zAy w r v L own room fuse){v':Value}{L':List zAQ}(g:OwnR w 127 3 v' L'.length (L'.flatMap zAQ.cells))(j:∀x∈L',x∈L∨(zAi w 5 x.b x.f.data∧∀k,x.b.ownBlock=some k→own k∧k≠r))(hn:∀k,v'.ownBlock=some k→¬own k) :
  zAy (w.setCell ⟨r,1,none⟩ v') r v' L' (fun k=>own k∨v'.ownBlock=some k) room fuse where
 cells:=zAC h.cells 1 v'
 row:=g.keep fun k c=>set_other _ (fun e=>hn k c (by have e:k=r:=e;rw[e];exact h.or))
 data:=fun x d=>by
  rcases j x d with d|⟨e,i⟩
  ·exact OwnR.keep (h.data x d) fun k c=>set_other _ (h.ob x d k c).2.1
  ·exact OwnR.keep e fun k c=>set_other _ (i k c).2
 or:=.inl h.or
 ov:=fun k c=>⟨.inr c,fun e=>hn k c (by rw[e];exact h.or)⟩
 ob:=fun x d k c=>by
  rcases j x d with d|⟨_,e⟩
  ·exact⟨.inl (h.ob x d k c).1,(h.ob x d k c).2.1,fun e=>hn k e (h.ob x d k c).1⟩
  ·exact⟨.inl (e k c).1,(e k c).2,fun i=>hn k i (e k c).1⟩
 olt:=fun k c=>by
  have:k<w.heap.size:=by
   rcases c with c|c
   ·exact h.olt k c
   ·exact g.lt c
  simpa[World.setCell]using this
end
section
variable {w:World} {r:Nat} {v:Value} {L:List zAQ} {own:Nat→Prop} {D:zAA}
theorem zAd.fit (h:zAd w r v L own D):L.length≤4096:=by rw[h.len];exact h.ok.count
theorem rappend_full (h:zAd w r v L own D)(s:ByteArray)(O:s.size≤9223372036854775807){pb:Option Addr}{m cb:Nat}(J:m≤140737488355328)(C:D.may [nm s]=0)
  (k:D.room<D.used+m∨(Sat.get (nm s) D.files=none∧4096≤D.files.length)) :
  Calls prog 16 #[.pointer (some ⟨r,0,none⟩),.string s,.slice pb m cb] w (zCh w r own (D,6)):=by
 have z:zAd (w.alloc (.cells #[.string s] 9)) r v L own D:=h.below ((Below.refl _ _).alloc (Nat.le_refl _) _);have b:=zCS z (some ⟨w.heap.size,0,none⟩) [s] 1 (zBV w s) (by simp) (by simpa using O);simp only[List.map_cons,List.map_nil]at b;have g:=zBm z s;rw[h.is]at g;rw[C]at b;have F:=zh (fun W y=>zBR h (w':=W) y 6);have E:=zh (fun W y=>zFm (h.below (w':=W) y));obtain⟨pv,cv,rfl⟩:=h.slice;have f:=zW (∀W,Below w.heap.size w W→W.cell? ⟨r,0,none⟩=some (.int .i64 (D.room:Int))∧W.cell? ⟨r,1,none⟩=some (.slice pv L.length cv)) fun W y=>⟨(h.below y).c0,(h.below y).c1⟩;have P:D.used≤1073741824:=Nat.le_trans h.ok.used h.ok.room;have M:=h.ok.room;have G:=h.fit;rw[←h.len]at k;generalize zA5 (nm s) (L.map zAQ.n)=i at *;clear h z;generalize D.used=U at *;generalize D.room=R at *;generalize L.length=N at *
 by_cases a:R<U+m
 focus
  have A:decide ((R:Int)<(U:Int)+(m:Int))=true:=by simp;omega
  have B:decide (R<U+m)=true:=by simpa using a
  clear k C
 rotate_left
 focus
  obtain⟨H,Q⟩:Sat.get (nm s) D.files=none∧4096≤N:=by
   rcases k with k|k
   ·exact absurd k a
   ·exact k
  rw[H]at g;have I:N=4096:=by omega
  subst I;have A:decide ((R:Int)<(U:Int)+(m:Int))=false:=by simp;omega
  have B:decide (R<U+m)=false:=by simpa using a
  clear k C H
 all_goals
  have j:=zh b;have l:=zh g;clear b g;go_enter func16,ntmps16;go_wp2_with fail;refine j.o.mono ?_;rintro e w2 ⟨rfl,rfl⟩;go_wp2_with fail;refine l.o.mono ?_;rintro e w3 ⟨rfl,q,rfl⟩;have c:=zh (zAt w (.cells #[.string s] 9) q);have d:=zh (fun n=>E.o _ (c.o.trans (show Below _ _ (((w.alloc (.cells #[.string s] 9)).drewN q).drewN n)from⟨rfl,rfl,rfl,Nat.le_refl _,fun _ _=>rfl⟩)));obtain⟨p,t⟩:=f.o _ c.o;generalize (w.alloc (.cells #[.string s] 9)).drewN q=W at *;go_wp2_with fail;go_quiet ((go_at_call 71;refine Calls.quiet_of_same (d.o _)));clear p t;go_wp2_with fail;go_ret;exact F.o _ (c.o.trans ⟨rfl,rfl,rfl,Nat.le_refl _,fun _ _=>rfl⟩)
theorem rapp_end {W m:World}{b:Nat→Prop}{g i:Nat}{x:zAQ}{d:Value}{q:Bs}{F:List (Bs×zAW)}(o:zAy W r v L b D.room D.fuse)(A:v.ownBlock=some g)(E:L[i]?=some x)(s:Below W.heap.size W m)(a:zAi m 5 d q)(l:∀k,d.ownBlock=some k→W.heap.size≤k)
  (hF:F=(L.set i ⟨x.n,d,⟨q,x.f.lasts⟩⟩).map zAQ.key) (y:zAA.OK {D with files:=F}) (hch:Chg own w W) (hx1:∀k,b k→own k∨w.heap.size≤k) (hfz:D.fuse≠some 0) :
  Calls prog 72 #[.pointer (some ⟨r,0,none⟩)] (m.setCell ⟨g,i*3+1,none⟩ d) (zCh w r own (zAA.done {D with files:=F},0)):=by
 have c:zAy m r v L b D.room D.fuse:=o.keep s.size fun k c=>s.block k (o.olt k c);have p:=(o.ov g A).1;have C:=c.store A E 1 (by omega) d ⟨x.n,d,⟨q,x.f.lasts⟩⟩ rfl (own':=fun k=>b k∨d.ownBlock=some k) (fun _ h=>.inl h) a
  (fun k c=>⟨.inr c,fun e=>by have:=o.olt r o.or;have:=l k c;omega,fun e=>by have:=o.olt g p;have:=l k c;omega⟩)
  (fun k h=>by
   rcases h with h|h
   ·exact c.olt k h
   ·exact OwnR.lt a h)
 have t:zAd (m.setCell ⟨g,i*3+1,none⟩ d) r v (L.set i ⟨x.n,d,⟨q,x.f.lasts⟩⟩) (fun k=>b k∨d.ownBlock=some k) {D with files:=F}:=C.full rfl rfl hF y;have z:=hch.size;have j:Chg own w (m.setCell ⟨g,i*3+1,none⟩ d):=by
  refine(hch.trans ((Chg.of_below s).mono (T:=fun _=>False) fun _ _ h=>h) fun _ _ h=>h.elim).trans (Chg.setCell m ⟨g,i*3+1,none⟩ d) fun k c e=>?_;have e:k=g:=e;rcases hx1 g p with h|h
  ·rw[e];exact h
  ·omega
 refine(zCr t hfz).mono ?_;intro e G B;refine zDa j (fun k c=>?_) j.size B;rcases c with c|c
 ·exact hx1 k c
 ·exact .inr (Nat.le_trans z (l k c))
theorem rappend_is (h:zAd w r v L own D)(s:ByteArray)(hs:s.size≤9223372036854775807){pb:Option Addr}{m cb:Nat}{l:Bs}(hl:zAb w (.slice pb m cb) l)(hm:D.may [nm s]=0){f:zAW}(hg:Sat.get (nm s) D.files=some f)(aB:D.used+m≤D.room)
  (av:zAA.OK {D with files:=put (nm s) ⟨f.data++l,f.lasts⟩ D.files}) :
  Calls prog 16 #[.pointer (some ⟨r,0,none⟩),.string s,.slice pb m cb] w (zCh w r own (zAA.done {D with files:=put (nm s) ⟨f.data++l,f.lasts⟩ D.files},0)):=by
 have al:m=l.length:=(zCV hl).1;have h1:zAd (w.alloc (.cells #[.string s] 9)) r v L own D:=h.below ((Below.refl _ _).alloc (Nat.le_refl _) _);have N:=zCS h1 (some ⟨w.heap.size,0,none⟩) [s] 1 (zBV w s) (by simp) (by simpa using hs);simp only[List.map_cons,List.map_nil]at N;have am:=zBm h1 s;rw[h.is,hg]at am;rw[hm]at N;have HU:=zh (fun W P=>zFm (h.below (w':=W) P));obtain⟨x,hx,aD,rfl⟩:=h.hit hg;have aG:=h.len_le hx;have an:=List.mem_of_getElem? hx;have hN:zA5 (nm s) (L.map zAQ.n)<L.length:=(List.getElem?_eq_some_iff.1 hx).1;rcases h.at with h0|⟨g,c0,ab,az,-⟩
 ·rw[h0]at hN;simp at hN
 have X:v.ownBlock=some g:=by rw[ab];rfl
 have aI:D.used≤1073741824:=Nat.le_trans h.ok.used h.ok.room;have aH:=h.ok.room;have ah:=fun v'=>h.put hg ⟨x.n,v',⟨x.f.data++l,x.f.lasts⟩⟩ aD;have au:=zFQ hm;obtain⟨px,cx,ex,aC⟩:=zDY (h.data x an);generalize zA5 (nm s) (L.map zAQ.n)=i at *;have aa:=zW (∀W,Below w.heap.size w W→W.cell? ⟨r,0,none⟩=some (.int .i64 (D.room:Int))∧W.cell? ⟨r,1,none⟩=some (.slice (some ⟨g,0,none⟩) L.length c0)) (fun W P=>⟨(h.below P).c0,(h.below P).c1.trans (by rw[ab])⟩);have b:=zW (∀W,Below w.heap.size w W→W.cell? ⟨r,1,none⟩=some (.slice (some ⟨g,0,none⟩) L.length c0)∧W.cell? ⟨g,i*3+1,none⟩=some (.slice px x.f.data.length cx)∧W.frozen? ⟨g,i*3+1,none⟩=false) (fun W P=>by
  have hW:=h.below P;exact⟨hW.c1.trans (by rw[ab]),(hW.core.at X hx).2.1.trans (by rw[ex]),hW.core.free X _⟩)
 have ar:=zW (∀W,Below w.heap.size w W→zAK W 1 (.slice px x.f.data.length cx) x.f.data.length (zAR x.f.data)) (fun W P=>by
  have hW:=((h.below P).data x an).has;rw[ex]at hW;exact hW)
 have ap:=zW (∀W,Below w.heap.size w W→zAK W 1 (.slice pb m cb) m (zAR l)) (fun W P=>by
  have hW:=hl.below P;unfold zAb at hW;rw[←al]at hW;exact hW)
 have af:=zW (∀w7 v7,Below w.heap.size w w7→zAi w7 5 v7 (x.f.data++l)→(∀k,v7.ownBlock=some k→w.heap.size≤k)→Calls prog 72 #[.pointer (some ⟨r,0,none⟩)] (w7.setCell ⟨g,i*3+1,none⟩ v7) (zCh w r own (zAA.done {D with files:=put (nm s) ⟨x.f.data++l,x.f.lasts⟩ D.files},0))) (
  fun w7 v7 P h7 aA=>rapp_end h.core X hx P h7 aA (ah v7) av (Chg.refl _ _) (fun _ h=>.inl h) au)
 have ao:=zW (r≠g) ((h.ov g X).2.symm);have ag:=zW ((x.f.data++l).length=x.f.data.length+m) (by rw[List.length_append,al]);obtain⟨i0,hi,ac,ad,ae⟩:=info_parts (show(prog.info? 5).map (fun i=>(i.zero,i.size,i.bytes))=some (some (.int .u8 0),1,1) by kernel_rfl);clear h h1 hm hg av hx an ah X ex al aC hl az au;subst ab;generalize aJ:x.f.data.length=Q at *;have aE:decide ((D.room:Int)<(D.used:Int)+(m:Int))=false:=by simp;omega
 have aF:decide (D.room<D.used+m)=false:=by simp;omega
 generalize D.used=U at *;generalize ax:D.room=R at *;have aq:=zh N;have aw:=zh am;clear N am
 go_enter func16,ntmps16
 go_wp2_with fail;refine aq.o.mono ?_;rintro e w2 ⟨rfl,rfl⟩;go_wp2_with fail;refine aw.o.mono ?_;rintro e w3 ⟨rfl,q,rfl⟩;have ai:=zh (zAt w (.cells #[.string s] 9) q);have aj:=zh (fun n=>HU.o _ (ai.o.trans (show Below _ _ (((w.alloc (.cells #[.string s] 9)).drewN q).drewN n)from⟨rfl,rfl,rfl,Nat.le_refl _,fun _ _=>rfl⟩)));obtain⟨ay,J⟩:=aa.o _ ai.o;generalize (w.alloc (.cells #[.string s] 9)).drewN q=W at *;go_wp2_with fail
 go_quiet ((go_at_call 71;refine Calls.quiet_of_same (aj.o _)))
 clear ay J;go_wp2_with fail;have S:=zW (Below w.heap.size w (W.drewN nq).drew) (ai.o.trans ⟨rfl,rfl,rfl,Nat.le_refl _,fun _ _=>rfl⟩);have hS:=(b.o _ S.o).1;refine ost (fun W':World=>W'.cell? ⟨r,1,none⟩=some (.slice (some ⟨g,0,none⟩) L.length c0)) 20 hS fun c=>?_;clear hS;generalize (W.drewN nq).drew=Wd at *;refine Pl [0,1,2,3,4,6,7,8,9,10,11,12,15] ?_
 iterate 13 (refine Pc rfl ?_;simp only[uZ])
 refine Pn ?_;refine zCp 5 13 rfl rfl (by kernel_rfl) (by rfl) (by rfl) (fun K t=>?_) (fun K t=>?_)
 focus
  go_wp2_with fail;have O:=zh (S.o.alloc S.o.size (.cells #[] 5));refine t.o _ _ ((b.o _ O.o).1) fun c=>?_;clear t;try simp only[uZ]
  refine oon 13 rfl fun K t=>?_;have M:=(b.o _ O.o).2.1;go_wp2_with fail;clear M
 rotate_left
 focus
  have M:=(b.o _ S.o).2.1;go_wp2_with fail;clear M;refine t.o _ _ ((b.o _ S.o).1) fun c=>?_;clear t;try simp only[uZ]
  refine oon 5 rfl fun K t=>?_;go_wp2_with fail;have O:=zh (S.o.alloc S.o.size (.cells #[] 5))
 all_goals
  refine t.o _ _ ((b.o _ O.o).1) fun c=>?_;clear t;try simp only[uZ]
  refine oon 14 rfl fun K t=>?_;have G:=zAx Wd 5;have Z:=ar.o _ O.o;refine zAm (.tmp 77) (.tmp 85) 22 (by rfl) 5 i0 (.int .u8 0) 1 1 underlying22 hi ac ad ae rfl (by decide) (.slice (some ⟨Wd.heap.size,0,none⟩) 0 0) 0 [] (by rfl) G (.slice px Q cx) Q _ (by rfl) Z (zAN _) (by unfold maxLen;omega) (by omega) ?_;clear G Z;intro v6 w6 d y A;have T:=zh (O.o.grown y O.o.size (fun j e=>by have:=S.o.size;simp[Value.ownBlock]at e;omega));have E:=zA0 (B:=w.heap.size) A (fun k hk=>by have:=S.o.size;simp[Value.ownBlock]at hk;omega) O.o.size;rw[Nat.zero_add,List.nil_append]at d;obtain⟨p6,c6,rfl⟩:=OwnR.shape d;have I:=zh d;have a:=zh E;clear y A d E;refine t.o _ _ ((b.o _ T.o).1) fun c=>?_;clear t;try simp only[uZ]
  refine oon 16 rfl fun K t=>?_;have Y:=ap.o _ T.o;refine zAm (.tmp 86) (.tmp 87) 22 (by rfl) 5 i0 (.int .u8 0) 1 1 underlying22 hi ac ad ae rfl (by decide) (.slice p6 Q c6) Q _ (by rfl) I.o (.slice pb m cb) m _ (by rfl) Y (zAN _) (by unfold maxLen;omega) (by omega) ?_;clear Y;intro v7 w7 p z C;have X7:=zh (T.o.grown z T.o.size a.o);have F:=zA0 (B:=w.heap.size) C a.o T.o.size;obtain⟨p7,c7,rfl⟩:=OwnR.shape p;rw[←zBl]at p;have H:=zh (af.o w7 (.slice p7 (Q+m) c7) X7.o (by unfold zAi;rw[ag.o];exact p) F);clear z C p F;refine t.o _ _ ((b.o _ X7.o).1) fun c=>?_;clear t;try simp only[uZ]
  refine Pl [17,18] ?_;iterate 2 (refine Pc rfl ?_;simp only[uZ])
  refine Pn ?_;refine oon 19 rfl fun K t=>?_;obtain⟨J,M,V⟩:=b.o _ X7.o;go_wp2_with fail;have ak:(w7.setCell ⟨g,i*3+1,none⟩ (.slice p7 (Q+m) c7)).cell? ⟨r,1,none⟩=some (.slice (some ⟨g,0,none⟩) L.length c0):=(World.cell?_of_block (set_other _ ao.o)).trans J;clear J M V;refine t.o _ _ (ak) fun c=>?_;clear t;try simp only[uZ]
  refine odn ?_;clear c;go_wp2_with fail;refine H.o.mono ?_;intro e w8 hE;have HE:=zh hE;obtain⟨rfl,-⟩:=hE;go_wp2_with fail;go_ret;exact HE.o
end
end Go.Proofs.YtapfnehdgailmaaGreat
namespace Go.Sat
open Go Go.RowKit
theorem zBK (w:World)(e:TypeId)(size:Nat):OwnR (w.alloc (.cells #[] e)) e size (.slice (some ⟨w.heap.size,0,none⟩) 0 0) 0 [] :=
 ⟨by simp,.inr ⟨_,0,#[],rfl,zAI w _,Nat.le_refl _,Nat.zero_le _,by simp,by simp⟩⟩
theorem zEx (w:World)(cs:Array Value)(xs:List Value)(size n c:Nat)(g:cs.toList=xs)(j:xs.length=n*size)(e:TypeId)(d:Nat×Nat):zAK (w.alloc (.cells cs e d)) size (.slice (some ⟨w.heap.size,0,none⟩) n c) n xs:=by
 refine⟨j,some ⟨w.heap.size,0,none⟩,c,rfl,fun e=>(by cases e),fun a f i u b=>?_⟩;cases f;rw[add_zero];refine zAG (zAI w _) ?_;rw[←g]at b;simpa using b
end Go.Sat
namespace Go.Proofs.YtapfnehdgailmaaGreat
open Go.RowKit Go.Sat Go.Maps
theorem has_void {w w':World}{v:Value}{l:Bs}(h:zAb w v l)(b:l=[]):zAb w' v l:=by
 subst b;obtain⟨b,p,c,e,d,-⟩:=h;exact⟨b,p,c,e,d,fun a g i u f=>by simp[zAR]at f⟩
section
variable {w:World} {r:Nat} {v:Value} {L:List zAQ} {own:Nat→Prop} {D:zAA}
def nilF (n:Bs):zAQ:=⟨n,.slice none 0 0,⟨[],0⟩⟩
theorem new_cells (L:List zAQ)(i:Nat)(n:Bs):(L.take i++nilF n::L.drop i).flatMap zAQ.cells=((L.flatMap zAQ.cells).take (i*3)++(nilF n).cells)++(L.flatMap zAQ.cells).drop (i*3):=by
 rw[List.flatMap_append,List.flatMap_cons,cells_take,cells_drop,List.append_assoc]
theorem zAd.putn (h:zAd w r v L own D){n:Bs}(c:Sat.get n D.files=none)(v':Value)(f:zAW):Sat.put n f D.files=((L.take (zA5 n (L.map zAQ.n))++nilF n::L.drop (zA5 n (L.map zAQ.n))).set (zA5 n (L.map zAQ.n)) ⟨n,v',f⟩).map zAQ.key:=by
 have b:zA5 n (L.map zAQ.n)≤L.length:=by have:=spotN_le n (L.map zAQ.n);rwa[List.length_map]at this
 have d:Sat.put n f D.files=ins (n,f) D.files:=by unfold Sat.put;rw[zDh c]
 rw[d,ins_at n f h.ok.srt c,←h.names,h.files];generalize zA5 n (L.map zAQ.n)=i at *;rw[List.set_append_right _ _ (by rw[List.length_take];omega),List.length_take,Nat.min_eq_left b,Nat.sub_self,List.set_cons_zero,List.map_append,List.map_cons,List.map_take,List.map_drop];rfl
theorem rappend_new (h:zAd w r v L own D)(s:ByteArray)(hs:s.size≤9223372036854775807){pb:Option Addr}{m cb:Nat}{l:Bs}(hl:zAb w (.slice pb m cb) l)(bk:l≠[]→∀k,(Value.slice pb m cb).ownBlock=some k→¬own k)(hm:D.may [nm s]=0)(hg:Sat.get (nm s) D.files=none)(bD:D.used+m≤D.room)(bg:D.files.length<4096)
  (bl:zAA.OK {D with files:=put (nm s) ⟨[]++l,0⟩ D.files}) :
  Calls prog 16 #[.pointer (some ⟨r,0,none⟩),.string s,.slice pb m cb] w (zCh w r own (zAA.done {D with files:=put (nm s) ⟨[]++l,0⟩ D.files},0)):=by
 have bj:m=l.length:=(zCV hl).1;have h1:zAd (w.alloc (.cells #[.string s] 9)) r v L own D:=h.below ((Below.refl _ _).alloc (Nat.le_refl _) _);have ao:=zCS h1 (some ⟨w.heap.size,0,none⟩) [s] 1 (zBV w s) (by simp) (by simpa using hs);simp only[List.map_cons,List.map_nil]at ao;have aT:=zBm h1 s;rw[h.is,hg]at aT;rw[hm]at ao;have HU:=zh (fun W hb=>zFm (h.below (w':=W) hb));have bN:D.used≤1073741824:=Nat.le_trans h.ok.used h.ok.room;have bK:=h.ok.room;have aL:=fun v'=>h.putn hg v' ⟨[]++l,0⟩;have bi:=zFQ hm;rw[←h.len]at bg;have aC:zA5 (nm s) (L.map zAQ.n)≤L.length:=by have:=spotN_le (nm s) (L.map zAQ.n);rwa[List.length_map]at this
 obtain⟨pv,cv,aB⟩:=h.slice;have bA:L.length≤cv:=by
  rcases h.at with h0|⟨g,c0,e,hc,-⟩
  ·rw[h0];exact Nat.zero_le _
  ·rw[aB]at e;cases e;exact hc
 generalize zA5 (nm s) (L.map zAQ.n)=i at *;have F:=zW (∀W,Below w.heap.size w W→W.cell? ⟨r,0,none⟩=some (.int .i64 (D.room:Int))∧W.cell? ⟨r,1,none⟩=some (.slice pv L.length cv)) (fun W hb=>⟨(h.below hb).c0,(h.below hb).c1.trans (by rw[aB])⟩);have bp:=zW (∀W,Below w.heap.size w W→W.frozen? ⟨r,1,none⟩=false) fun W hb=>zAE (h.below hb).cells 1;have aK:=zW (∀W,Below w.heap.size w W→OwnR W 127 3 (.slice pv L.length cv) L.length (L.flatMap zAQ.cells)) (fun W hb=>by rw[←aB];exact(h.below hb).row);have aJ:=zh (cells_one h.core.one);have Hl:=zh hl;have aY:=zh bj;have br:=zh bk;have aZ:=zh aL;have bs:=zh bl;have bq:=zh bi;have H:=zh h;obtain⟨i0,hi,aD,aE,aF⟩:=info_parts (show(prog.info? 5).map (fun i=>(i.zero,i.size,i.bytes))=some (some (.int .u8 0),1,1) by kernel_rfl);obtain⟨iF,ar,aP,az,aQ⟩:=info_parts (show(prog.info? 127).map (fun i=>(i.zero,i.size,i.bytes))=some (some (.agg #[.string ⟨#[]⟩,.slice none 0 0,.int .i64 0]),3,48) by kernel_rfl);have bL:∀W,(Instr.slice 116 (.slice pv L.length cv) none (some (.int .i64 (i:Int))) none).run prog W=.ok (.slice pv i cv) W:=fun W=>zB3 W underlying116 ar pv _ cv i (by omega);have bM:∀W,(Instr.slice 116 (.slice pv L.length cv) (some (.int .i64 (i:Int))) none none).run prog W=.ok (.slice (if cv-i=0 then pv else pv.map fun x=>x.add (i*3)) (L.length-i) (cv-i)) W:=fun W=>by
  have:=zE5 (P:=prog) W underlying116 ar pv L.length cv i aC bA;rw[az]at this;exact this
 have aN:=zW (∀W,Below w.heap.size w W→zAK W 3 (.slice (if cv-i=0 then pv else pv.map fun x=>x.add (i*3)) (L.length-i) (cv-i)) (L.length-i) ((L.flatMap zAQ.cells).drop (i*3))) fun W hb=>OwnR.cut_from (aK.o W hb) aC;generalize bC:(if cv-i=0 then pv else pv.map fun x=>x.add (i*3))=pF at *;clear h h1 hm hg bl aL bj hl bi bk bC;subst aB;have bH:decide ((D.room:Int)<(D.used:Int)+(m:Int))=false:=by simp;omega
 have bI:decide (D.room<D.used+m)=false:=by simp;omega
 generalize hU:D.used=U at *;generalize hN:L.length=N at *;have HN:=zh hN;clear hN hU;have aX:=zh ao;have bt:=zh aT;clear ao aT
 go_enter func16,ntmps16
 go_wp2_with fail;refine aX.o.mono ?_;rintro e w2 ⟨rfl,rfl⟩;go_wp2_with fail;refine bt.o.mono ?_;rintro e w3 ⟨rfl,q,rfl⟩;have aM:=zh (zAt w (.cells #[.string s] 9) q);have aO:=zh (fun n=>HU.o _ (aM.o.trans (show Below _ _ (((w.alloc (.cells #[.string s] 9)).drewN q).drewN n)from⟨rfl,rfl,rfl,Nat.le_refl _,fun _ _=>rfl⟩)));obtain⟨bB,ah⟩:=F.o _ aM.o;generalize (w.alloc (.cells #[.string s] 9)).drewN q=W at *;go_wp2_with fail
 go_quiet ((go_at_call 71;refine Calls.quiet_of_same (aO.o _)))
 clear bB ah;have Y:=zW (Below w.heap.size w (W.drewN nq)) (aM.o.trans ⟨rfl,rfl,rfl,Nat.le_refl _,fun _ _=>rfl⟩);generalize W.drewN nq=Wq at *;have T:=zh (Y.o.alloc Y.o.size (.cells #[] 127));have bb:=(F.o _ T.o).2;have bu:=zW (zAK (Wq.alloc (.cells #[] 127)) 3 (.slice pv i cv) i ((L.flatMap zAQ.cells).take (i*3))) (zAK.upto (OwnR.holds (aK.o _ T.o)) aC cv);go_wp2_with (first|(at_builtin;refine zAO (Wq.alloc (.cells #[] 127)) rfl (.tmp 48) (.tmp 54) 116 rfl 127 iF _ 3 48 underlying116 ar aP az aQ rfl (by decide) (.slice (some ⟨Wq.heap.size,0,none⟩) 0 0) 0 [] rfl (zBK Wq _ 3) (.slice pv i cv) i _ rfl bu.o (fun u hu=>aJ.o u (List.mem_of_mem_take hu)) (by unfold maxLen;omega) (by omega) ?_;intro bO aG G ab al;rw[Nat.zero_add,List.nil_append]at G;have hX:=T.o.grown ab T.o.size (fun j e=>by have:=Y.o.size;simp[Value.ownBlock]at e;omega);have E:=zA0 (B:=w.heap.size) al (fun k hk=>by have:=Y.o.size;simp[Value.ownBlock]at hk;omega) T.o.size;obtain⟨bE,bv,rfl⟩:=OwnR.shape G;have ap:=zh (And.intro hX (And.intro G E));clear G ab al hX E bb)|(at_builtin;refine zAO (aG.alloc (.cells #[.string s,.slice none 0 0,.int .i64 0] 127)) rfl (.tmp 56) (.tmp 59) 116 rfl 127 iF _ 3 48 underlying116 ar aP az aQ rfl (by decide) (.slice bE i bv) i _ rfl (OwnR.keep ap.o.2.1 fun j hj=>zFt aG _ (OwnR.lt ap.o.2.1 hj)) (.slice (some ⟨aG.heap.size,0,none⟩) 1 1) 1 [.string s,.slice none 0 0,.int .i64 0] rfl (zEx aG #[.string s,.slice none 0 0,.int .i64 0] _ 3 1 1 rfl rfl _ _) (fun u hu=>by simp at hu;rcases hu with rfl|rfl|rfl<;>rfl) (by unfold maxLen;omega) (by omega) ?_;intro bP bn V ac am;have aA:=ap.o.1.alloc ap.o.1.size (.cells #[.string s,.slice none 0 0,.int .i64 0] 127);have hX:=aA.grown ac aA.size (fun j hj=>ap.o.2.2 j hj);have E:=zA0 (B:=w.heap.size) am ap.o.2.2 aA.size;obtain⟨bF,bw,rfl⟩:=OwnR.shape V;have Z:=zh (And.intro hX (And.intro V E));have bc:=(F.o _ Z.o.1).2;clear V ac am hX E aA)|(at_builtin;refine zAO bn rfl (.tmp 62) (.tmp 68) 116 rfl 127 iF _ 3 48 underlying116 ar aP az aQ rfl (by decide) (.slice bF (i+1) bw) (i+1) _ rfl Z.o.2.1 (.slice pF (N-i) (cv-i)) (N-i) _ rfl (aN.o bn Z.o.1) (fun u hu=>aJ.o u (List.mem_of_mem_drop hu)) (by unfold maxLen;omega) (by omega) ?_;intro bQ A X ad an;have hX:=Z.o.1.grown ad Z.o.1.size (fun j hj=>Z.o.2.2 j hj);have E:=zA0 (B:=w.heap.size) an Z.o.2.2 Z.o.1.size;obtain⟨aq,f,rfl⟩:=OwnR.shape X;have aa:=zh (And.intro hX (And.intro X E));have bd:=(F.o _ aa.o.1).2;have bh:=bp.o _ aa.o.1;clear X ad an hX E bc))
 clear bd bh;have aw:=aa.o.2.1;have aj:=(H.o.below aa.o.1).core;have es:Value.string s=encStr (nm s):=by rw[enc_str];simp[nm]
 have av:(L.take i++nilF (nm s)::L.drop i).length=i+1+(N-i):=by
  rw[List.length_append,List.length_take,List.length_cons,List.length_drop,HN.o];omega
 have ax:OwnR A 127 3 (.slice aq (i+1+(N-i)) f) (L.take i++nilF (nm s)::L.drop i).length ((L.take i++nilF (nm s)::L.drop i).flatMap zAQ.cells):=by
  rw[new_cells,av]
  show OwnR A _ 3 _ _ (((L.flatMap zAQ.cells).take (i*3)++[encStr (nm s),.slice none 0 0,.int .i64 0])++_)
  rw[←es];exact aw
 have ak:∀k,(Value.slice aq (i+1+(N-i)) f).ownBlock=some k→¬own k:=fun k hk ho=>by
  have h1:=aa.o.2.2 k hk;have h2:=H.o.olt k ho;omega
 have C:=aj.relist ax (fun x hx=>by
  rcases List.mem_append.1 hx with hx|hx
  ·exact .inl (List.mem_of_mem_take hx)
  ·rcases List.mem_cons.1 hx with rfl|hx
   ·exact .inr ⟨OwnR.nil _ _ _,fun k hk=>by cases hk⟩
   ·exact .inl (List.mem_of_mem_drop hx)) ak
 have ae:zAb (A.setCell ⟨r,1,none⟩ (.slice aq (i+1+(N-i)) f)) (.slice pb m cb) l:=by
  by_cases aS:l=[]
  ·exact has_void Hl.o aS
  ·exact Hl.o.same fun k hk=>by
    have h1:=Hl.o.lt aS hk;have h2:k≠r:=fun e=>br.o aS k hk (by rw[e];exact H.o.or);exact(set_other _ h2).trans (aa.o.1.block k h1)
 have bf:Chg own w (A.setCell ⟨r,1,none⟩ (.slice aq (i+1+(N-i)) f)):=zCW aa.o.1 (zDo H.o.or);have bm:∀k,(own k∨(Value.slice aq (i+1+(N-i)) f).ownBlock=some k)→own k∨w.heap.size≤k:=fun k hk=>hk.imp id (aa.o.2.2 k);have aU:(L.take i++nilF (nm s)::L.drop i)[i]?=some (nilF (nm s)):=by
  rw[List.getElem?_append_right (by rw[List.length_take];omega),List.length_take,HN.o,Nat.min_eq_left aC,Nat.sub_self];rfl
 obtain⟨g,rfl⟩:∃g,aq=some ⟨g,0,none⟩:=by
  rcases aw.2 with⟨e,hn⟩|⟨g',bG,cur,e,_⟩
  ·omega
  ·cases e;exact⟨g',rfl⟩
 have aV:=zW (r≠g) ((C.ov g rfl).2.symm);have bo:=zh C;have b:=zW (∀W,Below (A.setCell ⟨r,1,none⟩ (.slice (some ⟨g,0,none⟩) (i+1+(N-i)) f)).heap.size (A.setCell ⟨r,1,none⟩ (.slice (some ⟨g,0,none⟩) (i+1+(N-i)) f)) W→W.cell? ⟨r,1,none⟩=some (.slice (some ⟨g,0,none⟩) (i+1+(N-i)) f)∧W.cell? ⟨g,i*3+1,none⟩=some (.slice none 0 0)∧W.frozen? ⟨g,i*3+1,none⟩=false) (fun W hb=>by
  have hW:=C.keep (w':=W) hb.size fun k hk=>hb.block k (C.olt k hk);exact⟨hW.c1,(hW.at rfl aU).2.1,hW.free rfl _⟩)
 have ba:=zh (fun(W:World) (_:Below (A.setCell ⟨r,1,none⟩ (.slice (some ⟨g,0,none⟩) (i+1+(N-i)) f)).heap.size (A.setCell ⟨r,1,none⟩ (.slice (some ⟨g,0,none⟩) (i+1+(N-i)) f)) W)=>(show zAK W 1 (.slice none 0 0) 0 (zAR [])from⟨rfl,none,0,rfl,fun _=>rfl,fun a ha=>by cases ha⟩));have aW:=zh (fun(W:World) (hb:Below (A.setCell ⟨r,1,none⟩ (.slice (some ⟨g,0,none⟩) (i+1+(N-i)) f)).heap.size (A.setCell ⟨r,1,none⟩ (.slice (some ⟨g,0,none⟩) (i+1+(N-i)) f)) W)=>(show zAK W 1 (.slice pb m cb) m (zAR l) by
  have hW:=ae.below hb;unfold zAb at hW;rw[←aY.o]at hW;exact hW))
 have aH:=zh (fun(w7:World) (v7:Value) (hb:Below (A.setCell ⟨r,1,none⟩ (.slice (some ⟨g,0,none⟩) (i+1+(N-i)) f)).heap.size (A.setCell ⟨r,1,none⟩ (.slice (some ⟨g,0,none⟩) (i+1+(N-i)) f)) w7) (h7:zAi w7 5 v7 ([]++l)) (hn7:∀k,v7.ownBlock=some k→(A.setCell ⟨r,1,none⟩ (.slice (some ⟨g,0,none⟩) (i+1+(N-i)) f)).heap.size≤k)=>rapp_end (D:=D) C rfl aU hb h7 hn7 (aZ.o v7) bs.o bf bm bq.o);have aI:=zW (([]++l:Bs).length=m) (by rw[List.nil_append,aY.o]);clear aw aj es av ax ak C ae bf bm aU Y T;generalize A.setCell ⟨r,1,none⟩ (.slice (some ⟨g,0,none⟩) (i+1+(N-i)) f)=Ws at *;generalize hM:i+1+(N-i)=M at *;have bJ:i<M:=by omega
 clear hM;obtain⟨be,-,-⟩:=b.o _ (Below.refl _ _);go_wp2_with fail;clear be;have Y:=zW (Below Ws.heap.size Ws Ws.drew) (⟨rfl,rfl,rfl,Nat.le_refl _,fun _ _=>rfl⟩);have hS:=(b.o _ Y.o).1;refine ost (fun W':World=>W'.cell? ⟨r,1,none⟩=some (.slice (some ⟨g,0,none⟩) M f)) 20 hS fun c=>?_;clear hS;generalize Ws.drew=Wd at *;refine Pl [0,1,2,3,4,6,7,8,9,10,11,12,15] ?_
 iterate 13 (refine Pc rfl ?_;simp only[uZ])
 refine Pn ?_;refine zCp 5 13 rfl rfl (by kernel_rfl) (by rfl) (by rfl) (fun K t=>?_) (fun K t=>?_)
 focus
  go_wp2_with fail;have T:=zh (Y.o.alloc Y.o.size (.cells #[] 5));refine t.o _ _ ((b.o _ T.o).1) fun c=>?_;clear t;try simp only[uZ]
  refine oon 13 rfl fun K t=>?_;have ai:=(b.o _ T.o).2.1;go_wp2_with fail;clear ai
 rotate_left
 focus
  have ai:=(b.o _ Y.o).2.1;go_wp2_with fail;clear ai;refine t.o _ _ ((b.o _ Y.o).1) fun c=>?_;clear t;try simp only[uZ]
  refine oon 5 rfl fun K t=>?_;go_wp2_with fail;have T:=zh (Y.o.alloc Y.o.size (.cells #[] 5))
 all_goals
  refine t.o _ _ ((b.o _ T.o).1) fun c=>?_;clear t;try simp only[uZ]
  refine oon 14 rfl fun K t=>?_;have S:=zAx Wd 5;have ay:=ba.o _ T.o;refine zAm (.tmp 77) (.tmp 85) 22 (by rfl) 5 i0 (.int .u8 0) 1 1 underlying22 hi aD aE aF rfl (by decide) (.slice (some ⟨Wd.heap.size,0,none⟩) 0 0) 0 [] (by rfl) S (.slice none 0 0) 0 _ (by rfl) ay (zAN _) (by unfold maxLen;omega) (by omega) ?_;clear S ay;intro v6 w6 p y J;have X6:=zh (T.o.grown y T.o.size (fun j e=>by have:=Y.o.size;simp[Value.ownBlock]at e;omega));have Q:=zA0 (B:=Ws.heap.size) J (fun k hk=>by have:=Y.o.size;simp[Value.ownBlock]at hk;omega) T.o.size;rw[Nat.zero_add,List.nil_append]at p;obtain⟨p6,c6,rfl⟩:=OwnR.shape p;have ag:=zh p;have I:=zh Q;clear y J p Q;refine t.o _ _ ((b.o _ X6.o).1) fun c=>?_;clear t;try simp only[uZ]
  refine oon 16 rfl fun K t=>?_;have ae:=aW.o _ X6.o;refine zAm (.tmp 86) (.tmp 87) 22 (by rfl) 5 i0 (.int .u8 0) 1 1 underlying22 hi aD aE aF rfl (by decide) (.slice p6 0 c6) 0 _ (by rfl) ag.o (.slice pb m cb) m _ (by rfl) ae (zAN _) (by unfold maxLen;omega) (by omega) ?_;clear ae;intro v7 w7 d z O;have X7:=zh (X6.o.grown z X6.o.size I.o);have R:=zA0 (B:=Ws.heap.size) O I.o X6.o.size;rw[Nat.zero_add]at d;obtain⟨p7,c7,rfl⟩:=OwnR.shape d;rw[←zBl]at d;have af:=zh (aH.o w7 (.slice p7 m c7) X7.o (by unfold zAi;rw[aI.o];exact d) R);clear z O d R;refine t.o _ _ ((b.o _ X7.o).1) fun c=>?_;clear t;try simp only[uZ]
  refine Pl [17,18] ?_;iterate 2 (refine Pc rfl ?_;simp only[uZ])
  refine Pn ?_;refine oon 19 rfl fun K t=>?_;obtain⟨ah,ai,au⟩:=b.o _ X7.o;go_wp2_with fail;have aR:(w7.setCell ⟨g,i*3+1,none⟩ (.slice p7 m c7)).cell? ⟨r,1,none⟩=some (.slice (some ⟨g,0,none⟩) M f):=(World.cell?_of_block (set_other _ aV.o)).trans ah;clear ah ai au;refine t.o _ _ (aR) fun c=>?_;clear t;try simp only[uZ]
  refine odn ?_;clear c;go_wp2_with fail;refine af.o.mono ?_;intro e w8 hE;have HE:=zh hE;obtain⟨rfl,-⟩:=hE;go_wp2_with fail;go_ret;exact HE.o
end
section
variable {w:World} {r:Nat} {v:Value} {L:List zAQ} {own:Nat→Prop} {D:zAA}
theorem zET (h:zAd w r v L own D)(s:ByteArray)(t:s.size≤9223372036854775807){pb:Option Addr}{m cb:Nat}{l:Bs}(q:zAb w (.slice pb m cb) l)(G:l.length≤140737488355328)(A:l≠[]→∀k,(Value.slice pb m cb).ownBlock=some k→¬own k) :
  Calls prog 16 #[.pointer (some ⟨r,0,none⟩),.string s,.slice pb m cb] w (zCh w r own (D.append (nm s) l)):=by
 have a:m=l.length:=(zCV q).1
 by_cases i:D.may [nm s]=0
 ·by_cases d:D.full (nm s) l=true
  ·have j:D.append (nm s) l=(D,6):=by unfold zAA.append;rw[if_neg (by rw[i];simp),if_pos d]
   rw[j];refine rappend_full h s t (by omega) i ?_;unfold zAA.full at d;rw[Bool.or_eq_true,Bool.and_eq_true,decide_eq_true_eq,decide_eq_true_eq,Option.isNone_iff_eq_none]at d;rw[a];exact d
  ·have z:D.full (nm s) l=false:=by simpa using d
   have g:=ok_append h.ok i z;have j:D.append (nm s) l=(zAA.done {D with files:=put (nm s) ⟨(D.cur (nm s)).data++l,(D.cur (nm s)).lasts⟩ D.files},0):=by unfold zAA.append;rw[if_neg (by rw[i];simp),if_neg d]
   rw[j];unfold zAA.full at d;rw[Bool.or_eq_true,Bool.and_eq_true,decide_eq_true_eq,decide_eq_true_eq,Option.isNone_iff_eq_none,not_or]at d;have c:D.used+m≤D.room:=by omega
   cases p:Sat.get (nm s) D.files with
   | some f =>
    have y:D.cur (nm s)=f:=by unfold zAA.cur;rw[p];rfl
    rw[y]at g ⊢;exact rappend_is h s t q i p c g
   | none =>
    have y:D.cur (nm s)=⟨[],0⟩:=by unfold zAA.cur;rw[p];rfl
    rw[y]at g ⊢;exact rappend_new h s t q A i p c (Nat.lt_of_not_le fun F=>d.2 ⟨p,F⟩) g
 ·have j:D.append (nm s) l=(D,D.may [nm s]):=by unfold zAA.append;rw[if_pos i]
  rw[j];have B:zAd (w.alloc (.cells #[.string s] 9)) r v L own D:=h.below ((Below.refl _ _).alloc (Nat.le_refl _) _);have b:=zCS B (some ⟨w.heap.size,0,none⟩) [s] 1 (zBV w s) (by simp) (by simpa using t);simp only[List.map_cons,List.map_nil]at b;have C:=zh (zBR h ((Below.refl _ _).alloc (Nat.le_refl _) (.cells #[.string s] 9)) (D.may [nm s]));have n:=zh b;generalize D.may [nm s]=E at *;have H:((E:Int) != 0)=true:=by simp;omega
  clear h B b j q
  go_enter func16,ntmps16
  go_wp2_with fail;refine n.o.mono ?_;rintro e w2 ⟨rfl,rfl⟩;go_wp2_with fail;go_ret;exact C.o
end
end Go.Proofs.YtapfnehdgailmaaGreat

/- What the program's functions and the document's do, and plain laws, for PJournalPlays. -/
import Derived.BigQuiet
import Derived.Deep.DrawnRows
import Derived.Deep.RegionHeld
import Derived.Deep.RegionHeld3
import Derived.Lib.Hide
import Derived.Lib.SlParts
import Derived.Maps.OwnOps
import Derived.Maps.RangeWalk
import Derived.Maps.StringElems
import Derived.WalkKit
import Derived.WalkLawsBesides
import Derived.WalkSpells
set_option maxRecDepth 100000
set_option maxHeartbeats 64000000
namespace Go.Sat
theorem zh {p:Prop}(h:p):Go.RowKit.Hid p:=h
theorem zW (p:Prop)(h:p):Go.RowKit.Hid p:=h
end Go.Sat
theorem Go.RowKit.Hid.o {p:Prop}(h:Go.RowKit.Hid p):p:=h
theorem Go.Shut.o {p:Prop}(h:Go.Shut p):p:=h
namespace Go.Sat
open Go.Maps (Keyed)
abbrev Bs:=List UInt8
section
variable {α β:Type}
def get (n:Bs)(L:List (Bs×α)):Option α:=(L.find? (fun p=>p.1==n)).map (·.2)
def del (n:Bs)(L:List (Bs×α)):List (Bs×α):=L.filter (fun p=>!(p.1==n))
def ins (x:Bs×α):List (Bs×α)→List (Bs×α)
 | []=>[x]
 | y::r=>if bytesBefore x.1 y.1 then x::y::r else y::ins x r
def put (n:Bs)(a:α)(L:List (Bs×α)):List (Bs×α):=ins (n,a) (del n L)
def Srt (L:List (Bs×α)):Prop:=L.Pairwise (fun p q=>bytesBefore p.1 q.1=true)
def zBZ (f:α→Nat)(L:List (Bs×α)):Nat:=(L.map fun p=>f p.2).sum
theorem zDR (a:Bs):bytesBefore a a=false:=WideAt.bytes_irrefl a
theorem zDB {a b c:Bs}(h:bytesBefore a b=true)(k:bytesBefore b c=true):bytesBefore a c=true:=WideShapes.bytes_trans a b c h k
theorem zFC (a b:Bs)(h:a≠b):bytesBefore a b=true∨bytesBefore b a=true:=WideAt.bytes_total a b h
theorem bb_ne {a b:Bs}(h:bytesBefore a b=true):a≠b:=by
 rintro rfl;rw[zDR]at h;cases h
theorem srt_nil:Srt ([]:List (Bs×α)):=List.Pairwise.nil
theorem zCv {n:Bs}{L:List (Bs×α)}(h:Srt L):Srt (del n L):=h.filter _
theorem mem_ins {x y:Bs×α}:∀{L:List (Bs×α)},y∈ins x L↔y=x∨y∈L
 | []=>by simp[ins]
 | z::r=>by
  unfold ins
  split
  ·simp
  ·simp[mem_ins (L:=r)]
   constructor
   ·rintro(h|h|h)<;>simp[h]
   ·rintro(h|h|h)<;>simp[h]
theorem ins_perm (x:Bs×α):∀(L:List (Bs×α)),(ins x L).Perm (x::L)
 | []=>List.Perm.refl _
 | z::r=>by
  unfold ins
  split
  ·exact List.Perm.refl _
  ·exact((ins_perm x r).cons z).trans (List.Perm.swap x z r)
theorem srt_ins {x:Bs×α}:∀{L:List (Bs×α)},Srt L→(∀p∈L,p.1≠x.1)→Srt (ins x L)
 | [],_,_=>by simp[ins,Srt]
 | y::r,h,hne=>by
  obtain⟨f,g⟩:=List.pairwise_cons.1 h;unfold ins
  split
  ·rename_i hb
   refine List.pairwise_cons.2 ⟨fun q b=>?_,h⟩;rcases List.mem_cons.1 b with rfl|b
   ·exact hb
   ·exact zDB hb (f q b)
  ·rename_i hb
   have d:bytesBefore y.1 x.1=true:=by
    rcases zFC x.1 y.1 (hne y (by simp)).symm with c|c
    ·exact absurd c hb
    ·exact c
   refine List.pairwise_cons.2 ⟨fun q b=>?_,srt_ins g (fun p i=>hne p (by simp[i]))⟩;rcases mem_ins.1 b with rfl|b
   ·exact d
   ·exact f q b
theorem zBM {n:Bs}{p:Bs×α}{L:List (Bs×α)}:p∈del n L↔p∈L∧p.1≠n:=by
 simp[del]
theorem zCO {n:Bs}{a:α}{L:List (Bs×α)}(h:Srt L):Srt (put n a L) :=
 srt_ins (zCv h) fun _ b=>(zBM.1 b).2
theorem zBe {n:Bs}{a:α}{p:Bs×α}{L:List (Bs×α)}:p∈put n a L↔p=(n,a)∨(p∈L∧p.1≠n):=by
 unfold put;rw[mem_ins,zBM]
theorem put_perm (n:Bs)(a:α)(L:List (Bs×α)):(put n a L).Perm ((n,a)::del n L):=ins_perm _ _
theorem zCy {n:Bs}{L:List (Bs×α)}:get n L=none↔∀p∈L,p.1≠n:=by
 simp[get,List.find?_eq_none]
theorem zBn {n:Bs}{a:α}{L:List (Bs×α)}(h:get n L=some a):(n,a)∈L:=by
 simp only[get,Option.map_eq_some_iff]at h;obtain⟨p,c,rfl⟩:=h;have d:=List.mem_of_find?_eq_some c;have b:=List.find?_some c;simp at b;rw[←b];exact d
theorem zF7 {L:List (Bs×α)}(h:Srt L){p q:Bs×α}(i:p∈L)(j:q∈L)(e:p.1=q.1):p=q:=by
 induction L with
 | nil=>simp at i
 | cons y r ih =>
  obtain⟨g,k⟩:=List.pairwise_cons.1 h;rcases List.mem_cons.1 i with f|c
  ·rcases List.mem_cons.1 j with d|b
   ·rw[f,d]
   ·exact absurd (f▸e) (bb_ne (g q b))
  ·rcases List.mem_cons.1 j with d|b
   ·exact absurd (d▸e).symm (bb_ne (g p c))
   ·exact ih k c b
theorem zCk {L:List (Bs×α)}(h:Srt L){n:Bs}{a:α}(d:(n,a)∈L):get n L=some a:=by
 cases c:get n L with
 | none=>exact absurd rfl (zCy.1 c _ d)
 | some b =>
  have:=zF7 h d (zBn c) rfl;simp at this;rw[this]
theorem get_iff {L:List (Bs×α)}(h:Srt L){n:Bs}{a:α}:get n L=some a↔(n,a)∈L:=⟨zBn,zCk h⟩
theorem zCQ {L:List (Bs×α)}(h:Srt L)(n:Bs)(a:α):get n (put n a L)=some a :=
 zCk (zCO h) (zBe.2 (.inl rfl))
theorem zDE {L:List (Bs×α)}(h:Srt L){n m:Bs}(a:α)(c:m≠n):get m (put n a L)=get m L:=by
 cases d:get m L with
 | none =>
  rw[zCy]at d ⊢;intro p f;rcases zBe.1 f with rfl|⟨f,_⟩
  ·exact c.symm
  ·exact d p f
 | some b=>exact zCk (zCO h) (zBe.2 (.inr ⟨zBn d,c⟩))
theorem zDi (n:Bs)(L:List (Bs×α)):get n (del n L)=none:=zCy.2 fun _ b=>(zBM.1 b).2
theorem zEN {L:List (Bs×α)}(h:Srt L){n m:Bs}(d:m≠n):get m (del n L)=get m L:=by
 cases c:get m L with
 | none=>rw[zCy]at c ⊢;exact fun p f=>c p (zBM.1 f).1
 | some b=>exact zCk (zCv h) (zBM.2 ⟨zBn c,d⟩)
theorem zDh {n:Bs}{L:List (Bs×α)}(h:get n L=none):del n L=L:=by
 rw[zCy]at h;exact List.filter_eq_self.2 fun p b=>by simpa using h p b
theorem sum_perm {f:α→Nat}{L L':List (Bs×α)}(h:L.Perm L'):zBZ f L=zBZ f L':=by
 induction h with
 | nil=>rfl
 | cons x _ ih=>simp only[zBZ,List.map_cons,List.sum_cons]at ih ⊢;omega
 | swap x y l=>simp only[zBZ,List.map_cons,List.sum_cons];omega
 | trans _ _ ih1 ih2=>exact ih1.trans ih2
theorem sum_cons (f:α→Nat)(x:Bs×α)(L:List (Bs×α)):zBZ f (x::L)=f x.2+zBZ f L:=rfl
theorem sum_put (f:α→Nat)(n:Bs)(a:α)(L:List (Bs×α)):zBZ f (put n a L)=f a+zBZ f (del n L):=sum_perm (put_perm n a L)
theorem split_at {L:List (Bs×α)}(h:Srt L){n:Bs}{a:α}(b:get n L=some a):L.Perm ((n,a)::del n L):=by
 induction L with
 | nil=>simp[get]at b
 | cons y r ih =>
  obtain⟨j,k⟩:=List.pairwise_cons.1 h
  by_cases c:y.1=n
  ·have i:y=(n,a):=zF7 h (by simp) (zBn b) c;have f:del n (y::r)=r:=by
    have d:∀p∈r,bytesBefore y.1 p.1=true:=j;unfold del;rw[List.filter_cons,if_neg (by simp[c])];refine List.filter_eq_self.2 fun p l=>?_;have:=bb_ne (d p l);rw[c]at this;simpa using fun e=>this (Eq.symm e)
   rw[f,i]
  ·have g:get n r=some a:=by
    simp only[get,List.find?_cons]at b;rw[show(y.1==n)=false by simpa using c]at b;exact b
   have f:del n (y::r)=y::del n r:=by
    unfold del;rw[List.filter_cons,if_pos (by simpa using c)]
   rw[f];exact((ih k g).cons y).trans (List.Perm.swap _ _ _)
theorem zDr {f:α→Nat}{L:List (Bs×α)}(h:Srt L){n:Bs}{a:α}(b:get n L=some a):zBZ f L=f a+zBZ f (del n L):=sum_perm (split_at h b)
theorem len_put (n:Bs)(a:α)(L:List (Bs×α)):(put n a L).length=(del n L).length+1:=(put_perm n a L).length_eq
theorem len_del {L:List (Bs×α)}(h:Srt L){n:Bs}{a:α}(b:get n L=some a):L.length=(del n L).length+1:=(split_at h b).length_eq
theorem len_del_le (n:Bs)(L:List (Bs×α)):(del n L).length≤L.length:=List.length_filter_le _ _
def mp (g:α→β)(L:List (Bs×α)):List (Bs×β):=L.map fun p=>(p.1,g p.2)
theorem mp_ins (g:α→β)(x:Bs×α):∀L:List (Bs×α),mp g (ins x L)=ins (x.1,g x.2) (mp g L)
 | []=>rfl
 | y::r=>by
  simp only[ins,mp,List.map_cons]
  split
  ·simp
  ·simp only[List.map_cons];rw[show List.map (fun p:Bs×α=>(p.1,g p.2)) (ins x r)=mp g (ins x r)from rfl,mp_ins g x r];rfl
theorem mp_del (g:α→β)(n:Bs)(L:List (Bs×α)):mp g (del n L)=del n (mp g L):=by
 simp only[mp,del,List.filter_map];rfl
theorem mp_put (g:α→β)(n:Bs)(a:α)(L:List (Bs×α)):mp g (put n a L)=put n (g a) (mp g L):=by
 simp only[put,mp_ins,mp_del]
theorem mp_get (g:α→β)(n:Bs)(L:List (Bs×α)):get n (mp g L)=(get n L).map g:=by
 simp only[get,mp,List.find?_map,Option.map_map];rfl
theorem mp_srt {g:α→β}{L:List (Bs×α)}(h:Srt L):Srt (mp g L):=by
 unfold Srt mp;rw[List.pairwise_map];exact h
theorem mp_len (g:α→β)(L:List (Bs×α)):(mp g L).length=L.length:=by simp[mp]
theorem mp_sum (f:β→Nat)(g:α→β)(L:List (Bs×α)):zBZ f (mp g L)=zBZ (fun a=>f (g a)) L:=by
 simp only[zBZ,mp,List.map_map];rfl
theorem srt_ext {L M:List (Bs×α)}(i:Srt L)(j:Srt M)(h:∀n,get n L=get n M):L=M:=by
 have b:∀p,p∈L↔p∈M:=fun p=>by rw[←get_iff i (n:=p.1) (a:=p.2),h,get_iff j]
 induction L generalizing M with
 | nil =>
  cases M with
  | nil=>rfl
  | cons y s=>exact absurd ((b y).2 (by simp)) (by simp)
 | cons x r ih =>
  cases M with
  | nil=>exact absurd ((b x).1 (by simp)) (by simp)
  | cons y s =>
   obtain⟨f,z⟩:=List.pairwise_cons.1 i;obtain⟨g,A⟩:=List.pairwise_cons.1 j;have d:x=y:=by
    rcases List.mem_cons.1 ((b x).1 (by simp))with e|t
    ·exact e
    ·rcases List.mem_cons.1 ((b y).2 (by simp))with e|v
     ·exact e.symm
     ·have k:=g x t;have l:=f y v;have:=zDB k l;rw[zDR]at this;cases this
   subst d;have q:r=s:=by
    refine ih z A (fun n=>?_) fun p=>?_
    ·by_cases hn:x.1=n
     ·have m:get n r=none:=zCy.2 fun p c e=>bb_ne (f p c) (hn.trans e.symm);have o:get n s=none:=zCy.2 fun p c e=>bb_ne (g p c) (hn.trans e.symm);rw[m,o]
     ·have:=h n;simp only[get,List.find?_cons]at this;rw[show(x.1==n)=false by simpa using hn]at this;exact this
    ·have:=b p;simp only[List.mem_cons]at this
     constructor
     ·intro c;rcases this.1 (.inr c)with e|e
      ·subst e;exact absurd rfl (bb_ne (f p c))
      ·exact e
     ·intro c;rcases this.2 (.inr c)with e|e
      ·subst e;exact absurd rfl (bb_ne (g p c))
      ·exact e
   rw[q]
end
/-! ### The reading of a map in memory. -/
section
variable {H α:Type}
def dm (g:α→DataW H)(L:List (Bs×α)):DataW H:=.map (L.map fun p=>(Lit.string p.1,g p.2))
theorem sk (a b:Bs):(Lit.string a).sameKey (.string b)=(a==b):=rfl
theorem dm_insert (g:α→DataW H)(x:Bs×α):∀L:List (Bs×α),DataW.insert (Lit.string x.1,g x.2) (L.map fun p=>(Lit.string p.1,g p.2))=(ins x L).map fun p=>(Lit.string p.1,g p.2)
 | []=>rfl
 | y::r=>by
  have f:=dm_insert g x r;have c:DataW.insert (Lit.string x.1,g x.2) ((y::r).map fun p=>(Lit.string p.1,g p.2)) =
    (if bytesBefore x.1 y.1=true then(Lit.string x.1,g x.2)::(Lit.string y.1,g y.2)::r.map fun p=>(Lit.string p.1,g p.2)
     else(Lit.string y.1,g y.2)::DataW.insert (Lit.string x.1,g x.2) (r.map fun p=>(Lit.string p.1,g p.2))):=rfl
  have d:ins x (y::r)=if bytesBefore x.1 y.1=true then x::y::r else y::ins x r:=rfl
  rw[c,f,d]
  by_cases b:bytesBefore x.1 y.1=true
  ·rw[if_pos b,if_pos b];rfl
  ·rw[if_neg b,if_neg b];rfl
theorem dm_del (g:α→DataW H)(n:Bs)(L:List (Bs×α)):(dm g L).del (.string n)=dm g (del n L):=by
 simp only[dm,DataW.del,del,List.filter_map];rfl
theorem dm_put (g:α→DataW H)(n:Bs)(a:α)(L:List (Bs×α)):(dm g L).put (.string n) (g a)=dm g (put n a L):=by
 have h:=dm_insert g (n,a) (del n L);have e:(dm g L).put (.string n) (g a)=.map (DataW.insert (Lit.string n,g a) ((del n L).map fun p=>(Lit.string p.1,g p.2))):=by
  simp only[dm,DataW.put,del,List.filter_map];rfl
 rw[e,h];rfl
theorem dm_atKey (g:α→DataW H)(n:Bs)(L:List (Bs×α))(z:DataW H):(dm g L).atKey (.string n) z=((get n L).map g).getD z:=by
 simp only[dm,DataW.atKey,List.find?_map,get,Option.map_map];rw[show((fun p:Lit×DataW H=>p.1.sameKey (Lit.string n)) ∘ fun p:Bs×α=>(Lit.string p.1,g p.2))=fun p=>p.1==n from rfl];cases List.find? (fun p:Bs×α=>p.1==n) L<;>rfl
theorem dm_has (g:α→DataW H)(n:Bs)(L:List (Bs×α)):Maps.has (dm g L) (.string n)=(get n L).isSome:=by
 simp only[dm,Maps.has,List.any_map,get,Option.isSome_map];rw[show((fun p:Lit×DataW H=>p.1.sameKey (Lit.string n)) ∘ fun p:Bs×α=>(Lit.string p.1,g p.2))=fun p=>p.1==n from rfl]
 induction L with
 | nil=>rfl
 | cons y r ih =>
  simp only[List.any_cons,List.find?_cons];cases(y.1==n)<;>simp[ih]
theorem dm_size (g:α→DataW H)(L:List (Bs×α)):Maps.size (dm g L)=L.length:=by simp[dm,Maps.size]
theorem exactly {w:World}{P:Program}{k:TypeId}{R:Value→Option (DataW H×List MemPlace)}{b n:Nat}{D:DataW H}(h:w.ownsMap P k R b n D):w.ownsMap P k R b (Maps.size D) D:=by
 obtain⟨es,c,d,F,f,rfl⟩:=h;exact⟨es,c,d,F,by simp[Maps.size,length_sorted],rfl⟩
def ptrR:Value→Option (DataW Nat×List MemPlace)
 | .pointer (some ⟨b,0,none⟩)=>some (.held b,[])
 | .pointer none=>some (.nil,[])
 | _=>none
theorem ptrR_inv {v:Value}{y:DataW Nat×List MemPlace}{b:Nat}(h:ptrR v=some y)(c:y.1=.held b):v=.pointer (some ⟨b,0,none⟩):=by
 unfold ptrR at h
 split at h
 ·simp at h;subst h;simp at c;rw[c]
 ·simp at h;subst h;simp at c
 ·simp at h
end
end Go.Sat
namespace Go.Sat
open Go.RowKit
def OwnR (w:World)(e:TypeId)(size:Nat)(v:Value)(n:Nat)(xs:List Value):Prop :=
 xs.length=n*size ∧
 ((v=.slice none 0 0∧n=0) ∨
  ∃g cap cur,v=.slice (some ⟨g,0,none⟩) n cap∧w.heap[g]?=some (.cells cur e (0,0))∧n≤cap∧cap≤maxLen∧cap*size≤cur.size∧cur.toList.take (n*size)=xs)
def zAK (w:World)(size:Nat)(v:Value)(n:Nat)(xs:List Value):Prop :=
 xs.length=n*size∧∃p cap,v=.slice p n cap∧(p=none→n=0)∧∀a,p=some a→∀(i:Nat) u,xs[i]?=some u→w.cell? (a.add i)=some u
section
variable {w w':World} {e:TypeId} {size:Nat} {v:Value} {n:Nat} {xs:List Value}
theorem OwnR.nil (w:World)(e:TypeId)(size:Nat):OwnR w e size (.slice none 0 0) 0 []:=⟨by simp,.inl ⟨rfl,rfl⟩⟩
theorem OwnR.lt (h:OwnR w e size v n xs){k:Nat}(b:v.ownBlock=some k):k<w.heap.size:=by
 rcases h.2 with⟨rfl,_⟩|⟨g,c,cur,rfl,d,_⟩
 ·simp[Value.ownBlock]at b
 ·simp[Value.ownBlock]at b;subst b;exact(Array.getElem?_eq_some_iff.1 d).1
theorem OwnR.keep (h:OwnR w e size v n xs)(c:∀k,v.ownBlock=some k→w'.heap[k]?=w.heap[k]?):OwnR w' e size v n xs:=by
 refine⟨h.1,?_⟩;rcases h.2 with hn|⟨g,b,cur,rfl,d,rest⟩
 ·exact .inl hn
 ·exact .inr ⟨g,b,cur,rfl,(c g rfl).trans d,rest⟩
theorem add_zero (g j:Nat):(⟨g,0,none⟩:Addr).add j=⟨g,j,none⟩:=by
 unfold Addr.add
 split<;>simp_all
theorem OwnR.cells (h:OwnR w e size v n xs){g:Nat}(d:v.ownBlock=some g):∀j u,xs[j]?=some u→w.cell? ((⟨g,0,none⟩:Addr).add j)=some u:=by
 intro j u c;rcases h.2 with⟨rfl,_⟩|⟨k,i,cur,rfl,f,_,_,_,b⟩
 ·simp[Value.ownBlock]at d
 ·simp[Value.ownBlock]at d;subst d;rw[add_zero,cell_of_row w k j cur e (0,0) f];rw[←b,List.getElem?_take]at c
  split at c
  ·simpa using c
  ·cases c
theorem OwnR.holds (h:OwnR w e size v n xs):zAK w size v n xs:=by
 refine⟨h.1,?_⟩;rcases h.2 with⟨rfl,rfl⟩|⟨g,b,cur,rfl,d,_⟩
 ·exact⟨none,0,rfl,fun _=>rfl,fun a c=>by cases c⟩
 ·refine⟨some ⟨g,0,none⟩,b,rfl,fun e=>by(cases e),fun a c i u f=>?_⟩;cases c;exact h.cells rfl i u f
theorem OwnR.shape (h:OwnR w e size v n xs):∃p c,v=.slice p n c:=by
 obtain⟨_,p,c,rfl,_⟩:=h.holds;exact⟨p,c,rfl⟩
theorem OwnR.of_kit {base:Nat}(h:w.ownsRow base e size v n xs):OwnR w e size v n xs:=by
 refine⟨h.1,?_⟩;rcases h.2 with hn|⟨g,b,cur,rfl,_,i,d,c,f,j⟩
 ·exact .inl hn
 ·exact .inr ⟨g,b,cur,rfl,i,d,c,by omega,j⟩
theorem OwnR.block_ge {base:Nat}(h:w.ownsRow base e size v n xs){k:Nat}(b:v.ownBlock=some k):base≤k:=(World.ownsRow.lt h k b).1
theorem zAK.len (h:zAK w size v n xs):xs.length=n*size:=h.1
theorem zAK.keep (h:zAK w size v n xs)(g:∀k,v.ownBlock=some k→w'.heap[k]?=w.heap[k]?):zAK w' size v n xs:=by
 obtain⟨l,p,b,rfl,f,j⟩:=h;refine⟨l,p,b,rfl,f,fun a c i u m=>?_⟩;rw[←j a c i u m];refine World.cell?_of_block ?_;have d:(a.add i).block=a.block:=by unfold Addr.add;split<;>rfl
 rw[d];exact g a.block (by rw[c];rfl)
end
section
variable {P:Program} (w:World)
theorem run_app (t ty e:TypeId)(i:TypeInfo)(z:Value)(size bytes:Nat)(N:P.underlying t=some (.slice e))(J:P.info? e=some i)(Z:i.zero=some z)
  (E:i.size=size) (R:i.bytes=bytes) (X:z.cells.size=size) (aa:0<size)
  (v:Value) (n:Nat) (xs:List Value) (d:OwnR w e size v n xs)
  (x:Value) (m:Nat) (b:List Value) (W:zAK w size x m b) (K:∀u∈b,u.oneCell'=true)
  (F:n+m≤maxLen) (r:(n+m)*bytes≤140737488355328) :
  ∃v' w',(Builtin.append_ #[t,t] ty #[v,x]).run P w=.ok v' w'∧OwnR w' e size v' (n+m) (xs++b)∧w.grownBy w' v.ownBlock ∧
   (v'.ownBlock=v.ownBlock∨∃g,v'.ownBlock=some g∧w.heap.size≤g):=by
 subst E;subst R;obtain⟨C,p,c,rfl,V,f⟩:=W;have Q:n+m≤9223372036854775807:=by simp only[maxLen]at F;omega
 have s:(xs++b).length=(n+m)*i.size:=by rw[List.length_append,d.1,C,Nat.add_mul]
 by_cases Y:m=0
 ·subst Y;have hn:b=[]:=List.eq_nil_of_length_eq_zero (by simpa using C);subst hn;refine⟨v,w,?_,by simpa using d,⟨rfl,rfl,rfl,Nat.le_refl _,fun _ _ _=>rfl⟩,.inl rfl⟩;have H:(Builtin.firstCells i.size 0 (.slice p 0 c)).run P w=.ok #[] w:=by
   cases p<;>simp[Builtin.firstCells,loadCells,loadCellsFrom]
  rcases d.2 with⟨rfl,rfl⟩|⟨g,o,cur,rfl,S,L,B,G,A⟩
  ·simp[Builtin.append_,run_underlying N,sizeOf,typeInfo,J,Builtin.lenOf,H]
  ·simp[Builtin.append_,run_underlying N,sizeOf,typeInfo,J,Builtin.lenOf,H,L,storeCells]
 obtain⟨a,rfl⟩:∃a,p=some a:=by
  cases p with
  | none=>exact absurd (V rfl) Y
  | some a=>exact⟨a,rfl⟩
 have f:=f a rfl;have h:∀(l:Nat),l<n+m→∀(O:Option Nat),
   OwnR (w.drew.alloc (.cells (xs.toArray++b.toArray++Builtin.zeroCells z.cells (grownCap w (n+m) l e-(n+m))) e)) e i.size
    (.slice (some ⟨w.heap.size,0,none⟩) (n+m) (grownCap w (n+m) l e)) (n+m) (xs++b) ∧
   w.grownBy (w.drew.alloc (.cells (xs.toArray++b.toArray++Builtin.zeroCells z.cells (grownCap w (n+m) l e-(n+m))) e)) O:=by
  intro l ho O;have T:=grownCap_ge w (n+m) l e;have B:grownCap w (n+m) l e≤maxLen:=grownCap_le_maxLen w (n+m) l e F;refine⟨⟨s,.inr ⟨w.heap.size,_,_,rfl,heap_alloc_new w.drew _,T,B,?_,?_⟩⟩,⟨rfl,rfl,rfl,by simp,fun k U _=>heap_alloc_old w.drew _ U⟩⟩
  ·simp only[Array.size_append,List.size_toArray,size_zeroCells,X,d.1,C,←Nat.add_mul];apply Nat.le_of_eq
   congr 1
   omega
  ·simp only[Array.toList_append,List.append_assoc];rw[←List.append_assoc,←s];exact List.take_left
 rcases d.2 with⟨rfl,rfl⟩|⟨g,o,cur,rfl,S,L,B,G,A⟩
 ·have W:xs=[]:=List.eq_nil_of_length_eq_zero (by simpa using d.1);subst W;have M:=run_append_nil (P:=P) w t ty e i z N J Z a m c b C f (by omega) (by omega) (by have hb:=r;simp only[Nat.zero_add]at hb;omega);have y:=h 0 (by omega) (Value.ownBlock (.slice none 0 0));simp only[Nat.zero_add,List.nil_append,Array.empty_append]at y ⊢;exact⟨_,_,M,y.1,y.2,.inr ⟨_,rfl,Nat.le_refl _⟩⟩
 ·by_cases q:n+m≤o
  ·have I:n*i.size+b.length≤cur.size:=by
    rw[C,←Nat.add_mul];exact Nat.le_trans (Nat.mul_le_mul_right _ q) G
   have M:=run_append_room (P:=P) w t ty e i N J g n o cur S a m c b C f K q I;refine⟨_,_,M,⟨s,.inr ⟨g,o,_,rfl,setRow_heap w g cur _ e _ S,q,B,?_,?_⟩⟩,⟨rfl,rfl,rfl,by simp,fun k _ U=>setRow_other w g k _ (fun e=>U (by simp[Value.ownBlock,e]))⟩,.inl rfl⟩
   ·simp only[List.size_toArray,List.length_append,List.length_take,List.length_drop,Array.length_toList];omega
   ·rw[A,←s];exact List.take_left
  ·have D:∀j u,xs[j]?=some u→w.cell? ((⟨g,0,none⟩:Addr).add j)=some u:=d.cells (g:=g) rfl;have M:=run_append_grow (P:=P) w t ty e i z N J Z ⟨g,0,none⟩ n o xs d.1 D a m c b C f (by omega) (by omega) (growslice_fits (by omega) r);have y:=h o (by omega) (Value.ownBlock (.slice (some ⟨g,0,none⟩) n o));exact⟨_,_,M,y.1,y.2,.inr ⟨_,rfl,Nat.le_refl _⟩⟩
theorem zAO {ops:Array Oper}{rest:List Oper}{o:Oper}{a:Act}{Q:Exit→Act→World→Prop}(b:o.guard=none)(s x:Operand)(t:TypeId)
  (k:o.op=.call {callee:=.builtin .append,args:=#[s,x],argTypes:=#[t,t] })
  (e:TypeId) (i:TypeInfo) (z:Value) (size bytes:Nat) (ht:P.underlying t=some (.slice e)) (hi:P.info? e=some i) (hz:i.zero=some z)
  (hsize:i.size=size) (hby:i.bytes=bytes) (hzs:z.cells.size=size) (hsz:0<size)
  (v:Value) (n:Nat) (xs:List Value) (hs:a.eval s=v) (hown:OwnR w e size v n xs)
  (xv:Value) (m:Nat) (news:List Value) (hxv:a.eval x=xv) (hx:zAK w size xv m news) (h1:∀u∈news,u.oneCell'=true)
  (h63:n+m≤maxLen) (hbytes:(n+m)*bytes≤140737488355328)
  (h:∀v' w',OwnR w' e size v' (n+m) (xs++news)→w.grownBy w' v.ownBlock→(v'.ownBlock=v.ownBlock∨∃g,v'.ownBlock=some g∧w.heap.size≤g)→wpList P ops Q rest (a.put o.dst v') w'):wpList P ops Q (o::rest) a w :=
 wpList_plain b fun K j=>by
  obtain⟨v',w',l,c,d,f⟩:=run_app (P:=P) w t o.type e i z size bytes ht hi hz hsize hby hzs hsz v n xs hown xv m news hx h1 h63 hbytes;unfold Oper.wp execOp;simp only[k,resolve,invoke,builtin,Sem.run_bind,Sem.run_pure,Result.andThen_ok,List.map_toArray,List.map_cons,List.map_nil,hs,hxv,l];exact j _ _ (h v' w' c d f)
end
/-! ### Bytes -/
def zAR (l:Bs):List Value:=l.map fun u=>.int .u8 (u.toNat:Int)
theorem zFD (l:Bs):(zAR l).length=l.length:=by simp[zAR]
theorem zBl (l m:Bs):zAR (l++m)=zAR l++zAR m:=by simp[zAR]
theorem zFd (l:Bs)(k:Nat):zAR (l.take k)=(zAR l).take k:=by simp[zAR,List.map_take]
theorem zAN (l:Bs):∀u∈zAR l,u.oneCell'=true:=by
 intro u b;obtain⟨x,_,rfl⟩:=List.mem_map.1 b;rfl
def zAb (w:World)(v:Value)(l:Bs):Prop:=zAK w 1 v l.length (zAR l)
def zAi (w:World)(e:TypeId)(v:Value)(l:Bs):Prop:=OwnR w e 1 v l.length (zAR l)
theorem zAi.has {w:World}{e:TypeId}{v:Value}{l:Bs}(h:zAi w e v l):zAb w v l:=OwnR.holds h
theorem zAi.keep {w w':World}{e:TypeId}{v:Value}{l:Bs}(h:zAi w e v l)(b:∀k,v.ownBlock=some k→w'.heap[k]?=w.heap[k]?):zAi w' e v l:=OwnR.keep h b
theorem zAb.kit {w:World}{v:Value}{l:Bs}(h:zAb w v l):Lib.HoldsBytes w v l:=by
 obtain⟨_,p,b,rfl,c,f⟩:=h;refine⟨p,b,rfl,fun e=>List.eq_nil_of_length_eq_zero (c e),fun a d i x g=>f a d i _ ?_⟩;simp[zAR,g]
theorem zAb.of_kit {w:World}{v:Value}{l:Bs}(h:Lib.HoldsBytes w v l):zAb w v l:=by
 obtain⟨p,b,rfl,d,g⟩:=h;refine⟨by simp[zAR],p,b,rfl,fun e=>by rw[d e];rfl,fun a f i u c=>?_⟩;simp only[zAR,List.getElem?_map,Option.map_eq_some_iff]at c;obtain⟨x,j,rfl⟩:=c;exact g a f i x j
/-! ### What a step may turn -/
structure Chg (S:Nat→Prop)(w w':World):Prop where
 os:w'.os=w.os
 tape:w'.tape=w.tape
 output:w'.output=w.output
 size:w.heap.size≤w'.heap.size
 block:∀k,k<w.heap.size→¬S k→w'.heap[k]?=w.heap[k]?
section
variable {S T:Nat→Prop} {w w' w'':World}
theorem Chg.refl (S:Nat→Prop)(w:World):Chg S w w:=⟨rfl,rfl,rfl,Nat.le_refl _,fun _ _ _=>rfl⟩
theorem Chg.mono (h:Chg S w w')(c:∀k,k<w.heap.size→S k→T k):Chg T w w':=⟨h.os,h.tape,h.output,h.size,fun k b hn=>h.block k b fun s=>hn (c k b s)⟩
theorem Chg.trans (h:Chg S w w')(k:Chg T w' w'')(c:∀i,i<w.heap.size→T i→S i):Chg S w w'' :=
 ⟨k.os.trans h.os,k.tape.trans h.tape,k.output.trans h.output,Nat.le_trans h.size k.size,fun i b hn=>(k.block i (Nat.lt_of_lt_of_le b h.size) fun t=>hn (c i b t)).trans (h.block i b hn)⟩
theorem Chg.of_below (h:Below w.heap.size w w'):Chg (fun _=>False) w w':=⟨h.os,h.tape,h.output,h.size,fun k b _=>h.block k b⟩
theorem Chg.below (h:Chg S w w'){B:Nat}(d:B≤w.heap.size)(c:∀k,k<B→¬S k):Below B w w':=⟨h.os,h.tape,h.output,h.size,fun k b=>h.block k (by omega) (c k b)⟩
theorem Chg.of_grown {b:Option Nat}(h:w.grownBy w' b):Chg (fun k=>some k=b) w w':=⟨h.os,h.tape,h.output,h.size,fun k c hn=>h.block k c hn⟩
theorem Chg.alloc (w:World)(o:Obj):Chg (fun _=>False) w (w.alloc o):=⟨rfl,rfl,rfl,by simp,fun k b _=>heap_alloc_old w o b⟩
theorem Chg.drew (w:World):Chg (fun _=>False) w w.drew:=⟨rfl,rfl,rfl,Nat.le_refl _,fun _ _ _=>rfl⟩
theorem Chg.setCell (w:World)(a:Addr)(u:Value):Chg (fun k=>k=a.block) w (w.setCell a u):=⟨rfl,rfl,rfl,by simp[World.setCell],fun k _ hn=>Below.heap_setCell _ _ _ _ hn⟩
theorem Chg.cell (h:Chg S w w'){a:Addr}{v:Value}(b:w.cell? a=some v)(hn:¬S a.block):w'.cell? a=some v :=
 (World.cell?_of_block (h.block a.block (World.block_lt_of_cell? w a b) hn)).trans b
end
theorem zDQ (a:Addr)(i:Nat):(a.add i).block=a.block:=by unfold Addr.add;split<;>rfl
theorem zAK.chg {w w':World}{S:Nat→Prop}{size:Nat}{v:Value}{n:Nat}{xs:List Value}(h:zAK w size v n xs)(g:Chg S w w')(hS:∀k,v.ownBlock=some k→¬S k):zAK w' size v n xs:=by
 obtain⟨j,p,b,rfl,f,c⟩:=h;refine⟨j,p,b,rfl,f,fun a d i u l=>g.cell (c a d i u l) ?_⟩;rw[zDQ];exact hS _ (by rw[d];rfl)
theorem zAK.chg2 {w w':World}{S:Nat→Prop}{size:Nat}{v:Value}{n:Nat}{xs:List Value}(h:zAK w size v n xs)(j:Chg S w w')(hS:∀a u,w.cell? a=some u→v.ownBlock=some a.block→¬S a.block):zAK w' size v n xs:=by
 obtain⟨k,p,c,rfl,g,b⟩:=h;refine⟨k,p,c,rfl,g,fun a d i u f=>j.cell (b a d i u f) (hS _ _ (b a d i u f) ?_)⟩;rw[zDQ,d];rfl
theorem no_cell_map {w:World}{b:Nat}{es:Array MapEntry}{c:Nat}(h:w.heap[b]?=some (.map es c)){a:Addr}{u:Value}(d:w.cell? a=some u):a.block≠b:=fun e=>by
 simp[World.cell?,e,h]at d
theorem zAb.chg {w w':World}{S:Nat→Prop}{v:Value}{l:Bs}(h:zAb w v l)(b:Chg S w w')(hS:∀k,v.ownBlock=some k→¬S k):zAb w' v l:=zAK.chg h b hS
theorem zAb.below {w w':World}{v:Value}{l:Bs}(h:zAb w v l)(b:Below w.heap.size w w'):zAb w' v l:=h.chg (Chg.of_below b) fun _ _=>id
theorem zAb.slice {w:World}{v:Value}{l:Bs}(h:zAb w v l):∃p c,v=.slice p l.length c:=by
 obtain⟨_,p,c,e,_⟩:=h;exact⟨p,c,e⟩
theorem zAi.slice {w:World}{e:TypeId}{v:Value}{l:Bs}(h:zAi w e v l):∃p c,v=.slice p l.length c:=h.has.slice
theorem zEO {w w':World}{b:Option Nat}(h:w.grownBy w' b){k:Nat}{o:Obj}(d:w.heap[k]?=some o)(c:b≠some k):w'.heap[k]?=some o :=
 (h.block k (Array.getElem?_eq_some_iff.1 d).1 fun e=>c e.symm).trans d
theorem zB9 (p:Option Addr)(a b c d:Nat):(Value.slice p a b).ownBlock=(Value.slice p c d).ownBlock:=by cases p<;>rfl
theorem zAB {w:World}{b:Nat}{o:Obj}(h:w.heap[b]?=some o):b<w.heap.size:=(Array.getElem?_eq_some_iff.1 h).1
theorem zAG {w:World}{b:Nat}{c:Array Value}{e:TypeId}{d:Nat×Nat}(h:w.heap[b]?=some (.cells c e d)){i:Nat}{v:Value}(f:c[i]?=some v):w.cell? ⟨b,i,none⟩=some v:=by
 simp[World.cell?,h,f]
theorem zAU {w:World}{b:Nat}{c:Value}{l:List Value}{e:TypeId}{d:Nat×Nat}(h:w.heap[b]?=some (.cells (c::l).toArray e d)):w.cell? ⟨b,0,none⟩=some c:=zAG h rfl
theorem zAY {w:World}{b:Nat}{f c:Value}{l:List Value}{e:TypeId}{d:Nat×Nat}(h:w.heap[b]?=some (.cells (f::c::l).toArray e d)):w.cell? ⟨b,1,none⟩=some c:=zAG h rfl
theorem zAX {w:World}{b:Nat}{d f v2:Value}{l:List Value}{e:TypeId}{c:Nat×Nat}(h:w.heap[b]?=some (.cells (d::f::v2::l).toArray e c)):w.cell? ⟨b,2,none⟩=some v2:=zAG h rfl
theorem zAf {w:World}{b:Nat}{d f v2 v3:Value}{l:List Value}{e:TypeId}{c:Nat×Nat}(h:w.heap[b]?=some (.cells (d::f::v2::v3::l).toArray e c)):w.cell? ⟨b,3,none⟩=some v3:=zAG h rfl
theorem zDD {w:World}{b:Nat}{f g v2 v3 c:Value}{l:List Value}{e:TypeId}{d:Nat×Nat}(h:w.heap[b]?=some (.cells (f::g::v2::v3::c::l).toArray e d)):w.cell? ⟨b,4,none⟩=some c:=zAG h rfl
theorem zDv {w:World}{b:Nat}{f g v2 v3 i c:Value}{l:List Value}{e:TypeId}{d:Nat×Nat}(h:w.heap[b]?=some (.cells (f::g::v2::v3::i::c::l).toArray e d)):w.cell? ⟨b,5,none⟩=some c:=zAG h rfl
theorem zAE {w:World}{b:Nat}{c:Array Value}{e:TypeId}(h:w.heap[b]?=some (.cells c e (0,0)))(i:Nat):w.frozen? ⟨b,i,none⟩=false:=by
 simp[World.frozen?,h]
theorem zAC {w:World}{b:Nat}{c:Array Value}{e:TypeId}{d:Nat×Nat}(h:w.heap[b]?=some (.cells c e d))(i:Nat)(v:Value):(w.setCell ⟨b,i,none⟩ v).heap[b]?=some (.cells (c.setIfInBounds i v) e d):=by
 simp[World.setCell,Array.getElem?_modify,h]
theorem set_other {w:World}{a:Addr}{k:Nat}(v:Value)(b:k≠a.block):(w.setCell a v).heap[k]?=w.heap[k]?:=Below.heap_setCell _ _ _ _ b
theorem zAI (w:World)(o:Obj):(w.alloc o).heap[w.heap.size]?=some o:=heap_alloc_new w o
theorem zBB {w:World}{k:Nat}{x:Obj}(o:Obj)(h:w.heap[k]?=some x):(w.alloc o).heap[k]?=some x:=(heap_alloc_old w o (zAB h)).trans h
open Go.Maps (Keyed)
section
variable {α:Type}
def rem (b:Lit→Bool)(L:List (Bs×α)):List (Bs×α):=L.filter fun p=>b (.string p.1)
theorem srt_rem {b:Lit→Bool}{L:List (Bs×α)}(h:Srt L):Srt (rem b L):=h.filter _
theorem rem_start (g:α→DataW Nat)(L:List (Bs×α)):rem (Maps.has (dm g L)) L=L:=by
 refine List.filter_eq_self.2 fun p c=>?_;rw[dm_has];cases b:get p.1 L with
 | none=>exact absurd rfl (zCy.1 b p c)
 | some a=>rfl
theorem rem_end {b:Lit→Bool}(h:∀kl,b kl=false)(L:List (Bs×α)):rem b L=[]:=by
 refine List.filter_eq_nil_iff.2 fun p _=>?_;rw[h];simp
theorem get_rem {b:Lit→Bool}{L:List (Bs×α)}(h:Srt L){n:Bs}{a:α}(c:get n L=some a)(d:b (.string n)=true):get n (rem b L)=some a :=
 zCk (srt_rem h) (List.mem_filter.2 ⟨zBn c,d⟩)
theorem rem_step (b:Lit→Bool)(n:Bs)(L:List (Bs×α)):rem (fun z=>b z&& !z.sameKey (.string n)) L=del n (rem b L):=by
 simp only[rem,del,List.filter_filter];refine List.filter_congr fun p _=>?_;rw[sk];exact Bool.and_comm _ _
theorem rem_sum {f:α→Nat}{b:Lit→Bool}{L:List (Bs×α)}(h:Srt L){n:Bs}{a:α}(c:get n L=some a)(d:b (.string n)=true) :
  zBZ f (rem b L)=f a+zBZ f (rem (fun z=>b z&& !z.sameKey (.string n)) L):=by
 rw[rem_step];exact zDr (srt_rem h) (get_rem h c d)
end
theorem zEg {P:Program}{k:TypeId}(f:P.underlying k=some .string){b:Value}{c:Lit}(h:keyOf P k b=some c):∃s:ByteArray,b=.string s∧c=.string s.data.toList∧s.size≤maxLen:=by
 cases b<;>simp[keyOf,f,mapKey]at h
 obtain⟨d,rfl⟩:=h;exact⟨_,rfl,rfl,d⟩
section
variable {α:Type} {P:Program} (w:World) {ops:Array Oper} {rest:List Oper} {o:Oper} {a:Act} {Q:Exit→Act→World→Prop}
theorem zFA (R:o.guard=none)(J:Operand)(F:o.op=Op.next J false)(k:TypeId)(N:P.underlying k=some .string)(K:Keyed P k)
  (g:α→Nat) (L:List (Bs×α)) (b r n:Nat) (c:Lit→Bool) (i:Nat) (C:a.eval J=.pointer (some ⟨r,0,none⟩)) (h:w.ranges P k ptrR b r n (dm (fun x=>.held (g x)) L) c i)
  (l:(∀M,c M=false)→wpList P ops Q rest (a.put o.dst (.tuple #[.bool false])) w)
  (m:∀(s:ByteArray) (x:α) (w':World) (d:Nat),get s.data.toList L=some x→c (.string s.data.toList)=true→s.size≤maxLen →
   w'.ranges P k ptrR b r n (dm (fun x=>.held (g x)) L) (fun z=>c z&& !z.sameKey (.string s.data.toList)) d→d<i→w.grownBy w' (some r)→w'.heap.size=w.heap.size →
   (Instr.entry (.pointer (some ⟨r,0,none⟩))).run P w'=.ok (.tuple #[.string s,.pointer (some ⟨g x,0,none⟩)]) w' →
   wpList P ops Q rest (a.put o.dst (.tuple #[.bool true,.string s,.pointer (some ⟨g x,0,none⟩)])) w') :
  wpList P ops Q (o::rest) a w :=
 wpList_next_ranges w R J F k K ptrR (fun s:ByteArray=>.string s) (fun v:Value=>v) (fun U M f=>by obtain⟨s,rfl,_⟩:=zEg N f;exact⟨s,rfl⟩) (fun v _ _=>⟨v,rfl⟩)
  b r n _ c i C h (fun _ D=>l D) (fun s v M y w' d f D T t G E B H A=>by
   obtain⟨V,j,rfl,S⟩:=zEg N f;simp at j;subst j;have q:∀zd,((get s.data.toList L).map fun x=>(DataW.held (g x):DataW Nat)).getD zd=y.1:=fun zd=>by rw[←dm_atKey];exact t zd
   cases p:get s.data.toList L with
   | none =>
    rw[p]at q;have j:=q .nil;have O:=q (.held 0);rw[←O]at j;cases j
   | some x =>
    rw[p]at q;have j:=(q .nil).symm;have I:=ptrR_inv T j;subst I;exact m s x w' d p D S G E B H A)
theorem zE6 {t k e:TypeId}{b n:Nat}(K:Keyed P k)(i:P.underlying k=some .string)(l:P.underlying t=some (.map k e))(m:(zeroValue e).run P w=.ok (.pointer none) w)(g:α→Nat)(L:List (Bs×α))
  (h:w.ownsMap P k ptrR b n (dm (fun x=>.held (g x)) L)) (s:ByteArray) (j:s.size≤maxLen) :
  (Instr.lookup t (.map (some b)) (.string s) false).run P w=.ok (match get s.data.toList L with|some x=>.pointer (some ⟨g x,0,none⟩)|none=>.pointer none) w:=by
 obtain⟨v,o,f,c⟩:=h.lookup K l m (z:=.pointer none) (zd:=.nil) (zp:=[]) rfl (WideMaps.keyOf_string_mk i j);rw[f];rw[dm_atKey]at c;cases d:get s.data.toList L with
 | none =>
  rw[d]at c;simp only[Option.map_none,Option.getD_none]at c;unfold ptrR at c
  split at c<;>simp at c
  rfl
 | some x =>
  rw[d]at c;simp only[Option.map_some,Option.getD_some]at c;rw[ptrR_inv c rfl]
theorem zB2 {t k e:TypeId}{b n:Nat}(K:Keyed P k)(d:P.underlying k=some .string)(i:P.underlying t=some (.map k e))(j:(zeroValue e).run P w=.ok (.pointer none) w)(g:α→Nat){L:List (Bs×α)}
  (h:w.ownsMap P k ptrR b n (dm (fun x=>.held (g x)) L)) {s:ByteArray} (f:s.size≤maxLen) {x:α} (c:get s.data.toList L=some x) :
  (Instr.lookup t (.map (some b)) (.string s) false).run P w=.ok (.pointer (some ⟨g x,0,none⟩)) w:=by
 rw[zE6 w K d i j g L h s f,c]
theorem run_look_any {t k e:TypeId}{b n:Nat}(K:Keyed P k)(c:P.underlying k=some .string)(f:P.underlying t=some (.map k e))(i:(zeroValue e).run P w=.ok (.pointer none) w)(g:α→Nat){L:List (Bs×α)}
  (h:w.ownsMap P k ptrR b n (dm (fun x=>.held (g x)) L)) {s:ByteArray} (d:s.size≤maxLen) :
  ∃fv,(Instr.lookup t (.map (some b)) (.string s) false).run P w=.ok (.pointer fv) w:=by
 rw[zE6 w K c f i g L h s d];cases get s.data.toList L with
 | none=>exact⟨none,rfl⟩
 | some x=>exact⟨_,rfl⟩
theorem zBj {t k e:TypeId}{b n:Nat}(K:Keyed P k)(d:P.underlying k=some .string)(i:P.underlying t=some (.map k e))(j:(zeroValue e).run P w=.ok (.pointer none) w)(g:α→Nat){L:List (Bs×α)}
  (h:w.ownsMap P k ptrR b n (dm (fun x=>.held (g x)) L)) {s:ByteArray} (f:s.size≤maxLen) (c:get s.data.toList L=none) :
  (Instr.lookup t (.map (some b)) (.string s) false).run P w=.ok (.pointer none) w:=by
 rw[zE6 w K d i j g L h s f,c]
end
/-! ### A region that draws its order,whose operations read or call what keeps a property of the world -/
theorem classOf (S:World→Prop){w:World}(h:S w):∃(ι:Type) (F:ι→World),Nonempty ι∧(∃n,w=F n)∧(∀n,S (F n))∧∀W,S W→∃n,W=F n :=
 ⟨{W:World // S W},Subtype.val,⟨⟨w,h⟩⟩,⟨⟨w,h⟩,rfl⟩,fun n=>n.2,fun W h=>⟨⟨W,h⟩,rfl⟩⟩
theorem zCc {P:Program}{ι:Type}(F:ι→World){g:Nat}{Q:Exit→Act→World→Prop}{a:Act}{w:World}{l:List Oper}(f:P.follows .mixedOrders=true)(d:Region.lexB .any l.toArray=true)(c:∃n,w.drew=F n)
  (h:wpQuiet P l.toArray (fun w'=>∃n,w'=F n) (fun b=>∀w',(∃n,w'=F n)→Q .normal b w') l a):(Code.region g l.toArray true).wp P Q a w :=
 wp_region_quiet (C:=fun w'=>∃n,w'=F n) f d c (by simpa using h)
end Go.Sat
namespace Go.Sat
open Go
section
variable {P:Program} {l:List Oper} {Q:Exit→Act→World→Prop} {md:Region.Mode} {S:World→Prop} {fuel:Nat} {listed:Array Bool} {a:Act} {w:World}
theorem zBo {i:Nat}{o:Oper}{r:List Oper}(h:l.drop i=o::r):l.toArray[i]?=some o:=by
 have:=List.getElem?_drop (xs:=l) (i:=i) (j:=0);rw[h]at this;simpa using this.symm
theorem ord_start (S:World→Prop){c n:Nat}(b:P.follows .mixedOrders=true)(hn:l.length=n)(hS:S w.drew)(h:S w.drew→wpAnyH P .any l.toArray Q S n (Array.replicate n false) a w.drew):(Code.region c l.toArray true).wp P Q a w:=by
 subst hn;exact wp_region_held_drew b hS (by simpa using h)
theorem ord_skip (i:Nat){o:Oper}{r:List Oper}(d:l.drop i=o::r)(j:Region.noSelect l.toArray=true)(f:Region.free md l.toArray listed i=true)(g:(Region.ready md l.toArray listed).contains i=true)
  (b:∀c a w,Q (.panic c) (a.put o.dst undef) w→Q (.panic c) a w) (k:Region.wanted o (yielded l.toArray a.tmps)=false) (hS:S w)
  (h:wpAnyH P md l.toArray Q S fuel (listed.setIfInBounds i true) (a.put o.dst undef) w):wpAnyH P md l.toArray Q S (fuel+1) listed a w :=
 wpAnyH_take (zBo d) j f g b (.inr ⟨k,rfl⟩) hS h
theorem zBb (i:Nat){o:Oper}{r:List Oper}{v:Value}(d:l.drop i=o::r)(j:Region.noSelect l.toArray=true)(f:Region.free md l.toArray listed i=true)(g:(Region.ready md l.toArray listed).contains i=true)
  (b:∀c a w,Q (.panic c) (a.put o.dst v) w→Q (.panic c) a w) (k:Region.wanted o (yielded l.toArray a.tmps)=true) (hS:S w) (m:∀w,S w→(execOp a.eval o).run P w=.ok (.value v) w)
  (h:wpAnyH P md l.toArray Q S fuel (listed.setIfInBounds i true) (a.put o.dst v) w):wpAnyH P md l.toArray Q S (fuel+1) listed a w :=
 wpAnyH_take (zBo d) j f g b (.inl ⟨k,m⟩) hS h
theorem ord_one (i:Nat){o:Oper}{r:List Oper}(c:l.drop i=o::r)(d:Region.ready md l.toArray listed=[i])(f:Region.wanted o (yielded l.toArray a.tmps)=true)
  (h:∀K:Act→World→Prop,Shut (∀a w,S w→(S w→wpAnyH P md l.toArray Q S fuel (listed.setIfInBounds i true) a w)→K a w)→Oper.wp P o a w K Q):wpAnyH P md l.toArray Q S (fuel+1) listed a w :=
 wpAnyH_ready d (by simp) (AllReadyH.cons (zBo c) (fun K b=>by rw[if_pos f];exact h K b) AllReadyH.nil)
theorem zAm {o:Oper}{K:Act→World→Prop}(s x:Operand)(t:TypeId)
  (f:o.op=.call {callee:=.builtin .append,args:=#[s,x],argTypes:=#[t,t] })
  (e:TypeId) (i:TypeInfo) (z:Value) (size bytes:Nat) (ht:P.underlying t=some (.slice e)) (hi:P.info? e=some i) (hz:i.zero=some z)
  (hsize:i.size=size) (hby:i.bytes=bytes) (hzs:z.cells.size=size) (hsz:0<size)
  (v:Value) (n:Nat) (xs:List Value) (hs:a.eval s=v) (hown:OwnR w e size v n xs)
  (xv:Value) (m:Nat) (news:List Value) (hxv:a.eval x=xv) (hx:zAK w size xv m news) (h1:∀u∈news,u.oneCell'=true)
  (h63:n+m≤maxLen) (hbytes:(n+m)*bytes≤140737488355328)
  (h:∀v' w',OwnR w' e size v' (n+m) (xs++news)→w.grownBy w' v.ownBlock→(v'.ownBlock=v.ownBlock∨∃g,v'.ownBlock=some g∧w.heap.size≤g)→K (a.put o.dst v') w'):Oper.wp P o a w K Q:=by
 obtain⟨v',w',j,b,c,d⟩:=run_app (P:=P) w t o.type e i z size bytes ht hi hz hsize hby hzs hsz v n xs hown xv m news hx h1 h63 hbytes;unfold Oper.wp execOp;simp only[f,resolve,invoke,builtin,Sem.run_bind,Sem.run_pure,Result.andThen_ok,List.map_toArray,List.map_cons,List.map_nil,hs,hxv,j];exact h v' w' b c d
end
def calm (xs:List Nat)(listed:Array Bool):Bool:=xs.all fun x=>!listed.getD x true
theorem calm_set {xs:List Nat}{listed:Array Bool}{i:Nat}(h:i∉xs):calm xs (listed.setIfInBounds i true)=calm xs listed:=by
 unfold calm;rw[Bool.eq_iff_iff,List.all_eq_true,List.all_eq_true];have e:∀x∈xs,(listed.setIfInBounds i true).getD x true=listed.getD x true:=fun x b=>getD_set_ne true fun e=>h (e▸b);exact⟨fun H x b=>by rw[←e x b];exact H x b,fun H x b=>by rw[e x b];exact H x b⟩
def waits (md:Region.Mode)(ops:Array Oper)(xs:List Nat)(i:Nat):Bool :=
 xs.all fun x=>match ops[x]? with
  | some o=>o.after.any fun e=>Region.binds md e&&e.on==i
  | none=>true
section
variable {P:Program} {ops:Array Oper} {Q:Exit→Act→World→Prop} {md:Region.Mode} {xs:List Nat} {S:World→Prop}
def zBk (P:Program)(md:Region.Mode)(ops:Array Oper)(Q:Exit→Act→World→Prop)(xs:List Nat)(S:World→Prop):Nat→Array Bool→Act→World→Prop
 | 0,listed,a,w=>Region.ready md ops listed=[]∧Q .normal a w
 | n+1,listed,a,w=>(Region.ready md ops listed=[]→Q .normal a w) ∧
   ∀i∈Region.ready md ops listed,wpOp P ops Q i (fun b v=>(calm xs (listed.setIfInBounds i true)=true→S v)∧zBk P md ops Q xs S n (listed.setIfInBounds i true) b v) a w
theorem any_of_G:∀(n:Nat) (listed:Array Bool) (a:Act) (w:World),zBk P md ops Q xs S n listed a w→wpAny P md ops Q n listed a w
 | 0,_,_,_,h=>h
 | n+1,_,_,_,h=>⟨h.1,fun i d=>wpOp_mono (fun b v c=>any_of_G n _ b v c.2) (h.2 i d)⟩
theorem G_first {i:Nat}{B:Oper}{v:Value}{T:World→Prop}(K:ops[i]?=some B)(q:∀(j:Nat) (o:Oper) cs b,ops[j]?=some o→o.op≠.select cs b)
  (hQ:∀c a w,Q (.panic c) (a.put B.dst v) w→Q (.panic c) a w) (A:i∉xs) (hT:(∀w,T w)∨(waits md ops xs i=true∧∀w,S w→T w)) :
  ∀(n:Nat) (listed:Array Bool) (a:Act) (w:World),
   (∀j C,ops[j]?=some C→j≠i→listed.getD j true=false→(∀e∈C.after,Region.binds md e=true→e.on≠i)→B.apart ops C=true) →
   i∈Region.ready md ops listed→YieldsIf P ops T B v a→T w→(calm xs listed=true→S w)→((∀w,T w)∨calm xs listed=true) →
   zBk P md ops Q xs S n (listed.setIfInBounds i true) (a.put B.dst v) w→zBk P md ops Q xs S (n+1) listed a w:=by
 intro n
 induction n with
 | zero =>
  intro listed a w _ N V z y _ H;refine⟨fun e=>absurd (e▸N) (by simp),fun j U=>?_⟩
  by_cases e:j=i
  ·subst e;exact V.wpOp K z ⟨fun I=>y (by rwa[calm_set A]at I),H⟩
  ·have E:=ready_mono U e;rw[H.1]at E;cases E
 | succ n ih =>
  intro listed a w f N V z y X H;refine⟨fun e=>absurd (e▸N) (by simp),fun j U=>?_⟩
  by_cases e:j=i
  ·subst e;exact V.wpOp K z ⟨fun I=>y (by rwa[calm_set A]at I),H⟩
  ·have r:=H.2 j (ready_mono U e);obtain⟨m,C,l,F⟩:=mem_ready.1 U;have p:∀e∈C.after,Region.binds md e=true→e.on≠i:=fun e Y G Z=>by
    have r:=F e Y G;have E:=(mem_ready.1 N).1;rw[Z]at r;rcases Nat.lt_or_ge i listed.size with d|d
    ·simp[d]at E r;rw[E]at r;cases r
    ·simp[Array.getElem?_eq_none d]at r
   have L:((∀w,T w)∨(j∉xs∧∀w,S w→T w)):=by
    rcases hT with h|⟨h,s⟩
    ·exact .inl h
    ·refine .inr ⟨fun hx=>?_,s⟩;have D:=List.all_eq_true.1 h j hx;rw[l]at D;obtain⟨e,Y,G⟩:=Array.any_eq_true'.1 D;rw[Bool.and_eq_true]at G;exact p e Y G.1 (by simpa using G.2)
   have h2:=wpOp_putIf l (f j C l e m p) (fun cs b=>q i B cs b K) (fun cs b=>q j C cs b l) hQ V r;have g:∀k R,ops[k]?=some R→k≠i→(listed.setIfInBounds j true).getD k true=false →
     (∀e∈R.after,Region.binds md e=true→e.on≠i)→B.apart ops R=true:=fun k R hk aa O ab=>by
    refine f k R hk aa ?_ ab
    by_cases J:j=k
    ·subst J;exact m
    ·rw[getD_set_ne true J]at O;exact O
   have W:calm xs ((listed.setIfInBounds i true).setIfInBounds j true)=calm xs (listed.setIfInBounds j true):=by
    rw[Array.setIfInBounds_comm _ _ (Ne.symm e),calm_set A]
   refine wpOp_mono (fun b u D=>?_) h2;have t:calm xs (listed.setIfInBounds j true)=true→S u:=fun I=>D.2.1 (by rw[W];exact I);have M:(∀w,T w)∨calm xs (listed.setIfInBounds j true)=true:=by
    rcases L with h|⟨h,-⟩
    ·exact .inl h
    ·rcases X with d|d
     ·exact .inl d
     ·exact .inr (by rw[calm_set h];exact d)
   refine⟨t,ih (listed.setIfInBounds j true) b u g (ready_mono N (Ne.symm e)) D.1 ?_ t M ?_⟩
   ·rcases L with h|⟨-,s⟩
    ·exact h u
    ·rcases M with d|d
     ·exact d u
     ·exact s u (t d)
   ·rw[Array.setIfInBounds_comm _ _ e];exact D.2.2
variable {l:List Oper} {fuel:Nat} {listed:Array Bool} {a:Act} {w:World}
theorem zDV (xs:List Nat)(S:World→Prop){c n:Nat}(b:P.follows .mixedOrders=true)(hn:l.length=n)(hS:S w.drew)(h:S w.drew→zBk P .any l.toArray Q xs S n (Array.replicate n false) a w.drew):(Code.region c l.toArray true).wp P Q a w:=by
 subst hn;exact wp_region_any b (any_of_G _ _ _ _ (by have:=h hS;simpa using this))
theorem zEw (i:Nat){o:Oper}{r:List Oper}{v:Value}(d:l.drop i=o::r)(k:Region.noSelect l.toArray=true)(g:Region.free md l.toArray listed i=true)(j:(Region.ready md l.toArray listed).contains i=true)
  (b:(!xs.contains i&&waits md l.toArray xs i&&calm xs listed)=true)
  (f:∀c a w,Q (.panic c) (a.put o.dst v) w→Q (.panic c) a w) (m:Region.wanted o (yielded l.toArray a.tmps)=true) (hS:S w) (n:∀w,S w→(execOp a.eval o).run P w=.ok (.value v) w)
  (h:zBk P md l.toArray Q xs S fuel (listed.setIfInBounds i true) (a.put o.dst v) w):zBk P md l.toArray Q xs S (fuel+1) listed a w:=by
 simp only[Bool.and_eq_true,Bool.not_eq_true',List.contains_eq_mem,decide_eq_false_iff_not]at b;exact G_first (T:=S) (zBo d) (Region.noSelect_spec k) f b.1.1 (.inr ⟨b.1.2,fun _ h=>h⟩) fuel listed a w (Region.free_spec (zBo d) g) (by simpa using j) (.inl ⟨m,n⟩) hS (fun _=>hS) (.inr b.2) h
theorem g_pure (i:Nat){o:Oper}{r:List Oper}{v:Value}(f:l.drop i=o::r)(m:Region.noSelect l.toArray=true)(j:Region.free md l.toArray listed i=true)(k:(Region.ready md l.toArray listed).contains i=true)
  (b:(!xs.contains i&& !calm xs listed)=true)
  (g:∀c a w,Q (.panic c) (a.put o.dst v) w→Q (.panic c) a w) (n:Region.wanted o (yielded l.toArray a.tmps)=true) (p:∀w,(execOp a.eval o).run P w=.ok (.value v) w)
  (h:zBk P md l.toArray Q xs S fuel (listed.setIfInBounds i true) (a.put o.dst v) w):zBk P md l.toArray Q xs S (fuel+1) listed a w:=by
 simp only[Bool.and_eq_true,Bool.not_eq_true',List.contains_eq_mem,decide_eq_false_iff_not]at b;exact G_first (T:=fun _=>True) (zBo f) (Region.noSelect_spec m) g b.1 (.inl fun _=>trivial) fuel listed a w (Region.free_spec (zBo f) j) (by simpa using k) (.inl ⟨n,fun w _=>p w⟩) trivial (fun d=>by rw[b.2]at d;cases d) (.inl fun _=>trivial) h
theorem g_pure0 (i:Nat){o:Oper}{r:List Oper}{v:Value}(b:l.drop i=o::r)(k:Region.noSelect l.toArray=true)(g:Region.free md l.toArray listed i=true)(j:(Region.ready md l.toArray listed).contains i=true)
  (d:(!xs.contains i)=true)
  (f:∀c a w,Q (.panic c) (a.put o.dst v) w→Q (.panic c) a w) (m:Region.wanted o (yielded l.toArray a.tmps)=true) (hS:S w) (n:∀w,(execOp a.eval o).run P w=.ok (.value v) w)
  (h:zBk P md l.toArray Q xs S fuel (listed.setIfInBounds i true) (a.put o.dst v) w):zBk P md l.toArray Q xs S (fuel+1) listed a w:=by
 simp only[Bool.not_eq_true',List.contains_eq_mem,decide_eq_false_iff_not]at d;exact G_first (T:=fun _=>True) (zBo b) (Region.noSelect_spec k) f d (.inl fun _=>trivial) fuel listed a w (Region.free_spec (zBo b) g) (by simpa using j) (.inl ⟨m,fun w _=>n w⟩) trivial (fun _=>hS) (.inl fun _=>trivial) h
theorem g_skip (i:Nat){o:Oper}{r:List Oper}(b:l.drop i=o::r)(k:Region.noSelect l.toArray=true)(g:Region.free md l.toArray listed i=true)(j:(Region.ready md l.toArray listed).contains i=true)
  (d:(!xs.contains i)=true)
  (f:∀c a w,Q (.panic c) (a.put o.dst undef) w→Q (.panic c) a w) (m:Region.wanted o (yielded l.toArray a.tmps)=false) (hS:S w)
  (h:zBk P md l.toArray Q xs S fuel (listed.setIfInBounds i true) (a.put o.dst undef) w):zBk P md l.toArray Q xs S (fuel+1) listed a w:=by
 simp only[Bool.not_eq_true',List.contains_eq_mem,decide_eq_false_iff_not]at d;exact G_first (T:=fun _=>True) (zBo b) (Region.noSelect_spec k) f d (.inl fun _=>trivial) fuel listed a w (Region.free_spec (zBo b) g) (by simpa using j) (.inr ⟨m,rfl⟩) trivial (fun _=>hS) (.inl fun _=>trivial) h
theorem zEM (i:Nat){o:Oper}{r:List Oper}(k:l.drop i=o::r)(d:Region.ready md l.toArray listed=[i])(m:Region.wanted o (yielded l.toArray a.tmps)=true)
  (h:∀K:Act→World→Prop,Shut (∀a w,S w→(S w→zBk P md l.toArray Q xs S fuel (listed.setIfInBounds i true) a w)→K a w)→Oper.wp P o a w K Q):zBk P md l.toArray Q xs S (fuel+1) listed a w:=by
 refine⟨fun e=>(by rw[d]at e;cases e),fun j c=>?_⟩;rw[d]at c;obtain rfl:j=i:=by simpa using c
 exact wpOp_step (zBo k) fun K f=>by
  rw[if_pos m];exact h K fun b v hS g=>f b v ⟨fun _=>hS,g hS⟩
theorem g_end (i:Nat){o:Oper}{r:List Oper}(m:l.drop i=o::r)(f:Region.ready md l.toArray listed=[i])(n:Region.wanted o (yielded l.toArray a.tmps)=true)(p:calm xs (listed.setIfInBounds i true)=false)
  (h:∀K:Act→World→Prop,Shut (∀a w,zBk P md l.toArray Q xs S fuel (listed.setIfInBounds i true) a w→K a w)→Oper.wp P o a w K Q):zBk P md l.toArray Q xs S (fuel+1) listed a w:=by
 refine⟨fun e=>(by rw[f]at e;cases e),fun j d=>?_⟩;rw[f]at d;obtain rfl:j=i:=by simpa using d
 exact wpOp_step (zBo m) fun K g=>by
  rw[if_pos n];exact h K fun b v k=>g b v ⟨fun c=>(by rw[p]at c;cases c),k⟩
theorem zEv (b:Region.ready md l.toArray listed=[])(h:Q .normal a w):∀fuel,zBk P md l.toArray Q xs S fuel listed a w
 | 0=>⟨b,h⟩
 | _+1=>⟨fun _=>h,by rw[b];simp⟩
end
end Go.Sat

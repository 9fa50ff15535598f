/- Part of a proof of a law of the layer of trees. -/
import Derived.Test.YtenmnhnlcnmloaaGreatQa03
import Derived.Test.YtenmnhnlcnmloaaGreatQa02
import Derived.Deep.Upon
import Derived.Deep.MidRow
import Derived.Laws.OwnMore
import Derived.Tactics
import Derived.OwnWalk
import Derived.Test.YtenmnhnlcnmloaaGreatQa01
import Derived.Test.YtenmnhnlcnmloaaGreatProg
import Derived.WalkKit
import Derived.Lib.Hide
import Derived.BigQuiet
import Derived.WalkSpells
import Derived.WalkLawsBesides
set_option linter.unusedVariables false
set_option linter.unusedSimpArgs false
set_option maxHeartbeats 8000000
set_option maxRecDepth 8000
namespace Go.Dav
open Go Go.RowKit
structure bP(W:World)(S:Nat->Prop)(a:Option Addr)(n:Nat)(xs:List Value):Prop where
 len:xs.length=n
 at_:∀(k:Nat) (v:Value),xs[k]? =some v->∃b o:Nat,a=some ⟨b,o,none⟩/\b<W.heap.size/\S b/\W.cell? ⟨b,o+k,none⟩=some v
def u8s(l:List UInt8):List Value:=l.map λx=>Value.int .u8 (x.toNat:Int)
theorem iy(l:List UInt8):∀u∈u8s l,u.oneCell'=true:=λu hu=>by
 obtain⟨x,_,rfl⟩:=List.mem_map.1 hu;rfl
theorem xg(l:List UInt8):(u8s l).length=l.length:=by simp[u8s]
theorem aW(l k:List UInt8):u8s (l++k)=u8s l++u8s k:=by simp[u8s]
theorem oG{l:List UInt8}{k:Nat}{x:UInt8}(h:l[k]? =some x):(u8s l)[k]? =some (.int .u8 (x.toNat:Int)):=by simp[u8s,h]
theorem au.cells{W:World}{S:Nat->Prop}{a:Option Addr}{n cap:Nat}{l:List UInt8}(h:au W S a n cap l):bP W S a n (u8s l):=
 ⟨by rw[xg,h.at_.hlen],λk v hk=>by
  unfold u8s at hk;rw[List.getElem?_map]at hk;cases hx:l[k]? with
  |none=>rw[hx]at hk;cases hk
  |some x=>
   rw[hx]at hk;cases hk;obtain⟨b,o,h1,h2,h3⟩:=h.at_.hat k x hx;obtain⟨b',o',h1',h4⟩:=h.in_ k x hx;rw[h1]at h1';cases h1';exact⟨b,o,h1,h2,h4,h3⟩⟩
theorem au.of_cells{W:World}{S:Nat->Prop}{a:Option Addr}{n cap:Nat}{l:List UInt8}(h:bP W S a n (u8s l))(h1:n<=cap)(h2:cap<=maxLen)(h3:n<=140737488355328)(h4:a=none->cap=0):au W S a n cap l:=
 ⟨⟨by rw[<- h.len,xg],h1,h2,h3,λk x hk=>by
  obtain⟨b,o,g1,g2,_,g4⟩:=h.at_ k _ (oG hk);exact⟨b,o,g1,g2,g4⟩,h4⟩,λk x hk=>by
  obtain⟨b,o,g1,_,g3,_⟩:=h.at_ k _ (oG hk);exact⟨b,o,g1,g3⟩⟩
theorem bP.ext{W W':World}{S:Nat->Prop}{a:Option Addr}{n:Nat}{xs:List Value}(h:bP W S a n xs)(hb:Below W.heap.size W W'):bP W' S a n xs:=
 ⟨h.len,λk v hk=>by
  obtain⟨b,o,h1,h2,h3,h4⟩:=h.at_ k v hk;exact⟨b,o,h1,Nat.lt_of_lt_of_le h2 hb.size,h3,by rw[hb.cell (p:=⟨b,o+k,none⟩) h2];exact h4⟩⟩
theorem bP.same{W W':World}{S:Nat->Prop}{a:Option Addr}{n:Nat}{xs:List Value}(h:bP W S a n xs)(hs:W.heap.size<=W'.heap.size)(hb:∀b,S b->b<W.heap.size->W'.heap[b]? =W.heap[b]?):bP W' S a n xs:=
 ⟨h.len,λk v hk=>by
  obtain⟨b,o,h1,h2,h3,h4⟩:=h.at_ k v hk;exact⟨b,o,h1,oM,h3,(World.cell?_of_block (hb b h3 h2)).trans h4⟩⟩
theorem bP.mono{W:World}{S T:Nat->Prop}{a:Option Addr}{n:Nat}{xs:List Value}(h:bP W S a n xs)(hst:∀b,S b->T b):bP W T a n xs:=
 ⟨h.len,λk v hk=>by
  obtain⟨b,o,h1,h2,h3,h4⟩:=h.at_ k v hk;exact⟨b,o,h1,h2,hst b h3,h4⟩⟩
theorem bP.nil_{W:World}{S:Nat->Prop}{a:Option Addr}:bP W S a 0 []:=⟨rfl,λk v hk=>by simp at hk⟩
theorem bP.from_{W:World}{S:Nat->Prop}{ad:Addr}{n:Nat}{xs:List Value}(h:bP W S (some ad) n xs):∀j u,xs[j]? =some u->W.cell? (ad.add j)=some u:=λj u hj=>by
 obtain⟨b,o,h1,_,_,h4⟩:=h.at_ j u hj;cases h1;rw[Addr.add_mid];exact h4
theorem bP.src{P:Program}{W:World}{S:Nat->Prop}{a:Option Addr}{n c:Nat}{xs:List Value}(h:bP W S a n xs)(h1:∀u∈xs,u.oneCell'=true){t e:TypeId}(ht:P.underlying t=some (.slice e)):Src P 1 t (.slice a n c) n xs W:=by
 cases a with
 |none=>
  have h0:xs=[]:=by
   cases xs with
   |nil=>rfl
   |cons x xs=>obtain⟨b,o,h1,_⟩:=h.at_ 0 x rfl;cases h1
  subst h0;have hn:n=0:=by have:=h.len;simpa using this.symm
  subst hn;exact Src.ofNil W ht c
 |some ad=>exact Src.ofSlice W ht ad n c xs (by rw[h.len];omega) h.from_ h1
structure BQ(P:Program)(t e:TypeId)(bytes:Nat):Prop where
 ht:P.underlying t=some (.slice e)
 row:∃i z,P.info? e=some i/\i.zero=some z/\i.size=1/\i.bytes=bytes/\z.cells.size=1
theorem bf{w:World}{base e n:Nat}{v:Value}{xs:List Value}(h:w.ownsRow base e 1 v n xs):
  ∃a cap,v= .slice a n cap/\n<=cap/\cap<=maxLen/\(a=none->cap=0)/\bP w (λb=>base<=b) a n xs:=by
 rcases h.2 with⟨h1,h2⟩|⟨g,cap,cur,h1,h2,h3,h4,h5,_⟩
 .subst h1 h2;have hx:xs=[]:=List.length_eq_zero_iff.1 (by have:=h.1;omega);subst hx;exact⟨none,0,rfl,Nat.le_refl _,by unfold maxLen;omega,λ_=>rfl,bP.nil_⟩
 .subst h1;refine⟨_,cap,rfl,h4,h5,(λh=>by cases h),by have:=h.1;omega,λk v hk=>⟨g,0,rfl,(Array.getElem?_eq_some_iff.1 h3).1,h2,?_⟩⟩;have:=h.cells (g:=g) rfl k v hk;rw[Addr.add_mid]at this;exact this
section
variable{P:Program}{W:World}
theorem rC{t e bytes:Nat}(E:BQ P t e bytes)(ty:TypeId)(base:Nat)(v:Value)(n:Nat)(xs:List Value)(hown:W.ownsRow base e 1 v n xs)(T:Nat->Prop)(ax:Option Addr)(m c:Nat)(ys:List Value)(hy:bP W T ax m ys)
  (h1:∀u∈ys,u.oneCell'=true) (hnone:ax=none->c=0) (h63:n+m<=maxLen) (hbytes:(n+m)*bytes<=140737488355328) (hbase:base<=W.heap.size):
  ∃v' w',(Builtin.append_ #[t,t] ty #[v, .slice ax m c]).run P W= .ok v' w'/\w'.ownsRow base e 1 v' (n+m) (xs++ys)/\W.grownBy w' v.ownBlock:=by
 obtain⟨i,z,hi,hz,hs,hb,hzs⟩:=E.row;cases ax with
 |none=>
  have h0:ys=[]:=by
   cases ys with
   |nil=>rfl
   |cons x xs=>obtain⟨b,o,h1,_⟩:=hy.at_ 0 x rfl;cases h1
  subst h0;have hm:m=0:=by have:=hy.len;simpa using this.symm
  have hc:=hnone rfl;subst hm hc;exact⟨v,W,run_append_owned_none W base t ty e i 1 E.ht hi v n xs hown,by simpa using hown,World.grownBy.refl _ _⟩
 |some ad=>
  obtain⟨v',w',r1,r2,r3,_⟩:=run_append_own (P:=P) W base t ty e i z 1 bytes E.ht hi hz hs hb hzs oM v n xs hown ad m c ys (by rw[hy.len];omega) hy.from_ h1 h63 hbytes hbase;exact⟨v',w',r1,r2,r3⟩
theorem yQ{t e bytes:Nat}(E:BQ P t e bytes)(ty:TypeId)(S:Nat->Prop)(a:Option Addr)(n:Nat)(xs:List Value)(hx:bP W S a n xs)(T:Nat->Prop)(ax:Option Addr)(m c:Nat)(ys:List Value)(hy:bP W T ax m ys)
  (h1:∀u∈ys,u.oneCell'=true) (hnone:a=none->n=0) (h63:n+m<=maxLen) (hbytes:(n+m)*bytes<=140737488355328):
  ∃a' cap' w',(Builtin.append_ #[t,t] ty #[.slice a n n, .slice ax m c]).run P W= .ok (.slice a' (n+m) cap') w'/\bP w' (λb=>(S b/\m=0)\/W.heap.size<=b) a' (n+m) (xs++ys)/\n+m<=cap'/\cap'<=maxLen/\(a'=none->cap'=0)/\Below W.heap.size W w':=by
 obtain⟨i,z,hi,hz,hs,hb,hzs⟩:=E.row;have hsrc:Src P i.size t (.slice ax m c) m ys W:=by rw[hs];exact hy.src h1 E.ht
 by_cases hm:m=0
 .subst hm;have h0:ys=[]:=List.length_eq_zero_iff.1 hy.len;subst h0;refine⟨a,n,W,run_append_nothing W t t ty e i E.ht hi a n n (Nat.le_refl _) _ hsrc,?_,Nat.le_refl _,oM,hnone,Below.refl _ _⟩;rw[List.append_nil];exact hx.mono λb hb=> .inl ⟨hb,rfl⟩
 .have hold:(Builtin.firstCells i.size n (.slice a n n)).run P W.drew= .ok xs.toArray W.drew:=by
   cases a with
   |none=>
    have h0:xs=[]:=by
     cases xs with
     |nil=>rfl
     |cons x xs=>obtain⟨b,o,h1,_⟩:=hx.at_ 0 x rfl;cases h1
    subst h0;rw[hnone rfl];exact run_firstCells_none W.drew i.size 0 0 0
   |some ad=>
    refine run_firstCells_some W.drew i.size n ad n n xs (by rw[hx.len,hs];omega) ?_;have:=hx.from_;simpa using this
  have h64:n+m<=9223372036854775807:=by simp only[maxLen]at h63;omega
  have hr:=run_append_grow_src (P:=P) W t t ty e i z E.ht hi hz a n n xs hold _ m ys hsrc oM oM (growslice_fits oM (by rw[hb];exact hbytes));have hge:=grownCap_ge W (n+m) n e;have hcm:grownCap W (n+m) n e<=maxLen:=grownCap_le_maxLen W (n+m) n e h63;refine⟨_,_,_,hr,⟨by rw[List.length_append,hx.len,hy.len],λk v hk=>⟨W.heap.size,0,rfl,by simp, .inr (Nat.le_refl _),?_⟩⟩,hge,hcm,(λh=>by cases h),?_⟩
  .have hnew:=heap_alloc_new W.drew (.cells ((xs++ys).toArray++Builtin.zeroCells z.cells (grownCap W (n+m) n e-(n+m))) e);have hlt:=(List.getElem?_eq_some_iff.1 hk).1;rw[World.cell?];have e1:W.drew.heap.size=W.heap.size:=rfl;rw[e1]at hnew;simp only[hnew];simp;rw[Array.getElem?_append_left (by simpa using hlt)];simpa using hk
  .exact(Below.refl _ _).drew.alloc (Nat.le_refl _) _
variable{ops:Array Oper}{rest:List Oper}{o:Oper}{a:Act}{Q:Exit->Act->World->Prop}
theorem ak(hgd:o.guard=none)(s x:Operand)(t:TypeId)(ho:o.op= .call { callee:= .builtin .append,args:= #[s,x],argTypes:= #[t,t]}){e bytes:Nat}(E:BQ P t e bytes)(base:Nat)(v:Value)(n:Nat)(xs:List Value)(hs:a.eval s=v)(hown:W.ownsRow base e 1 v n xs)
  (T:Nat->Prop) (ax:Option Addr) (m c:Nat) (ys:List Value) (hx:a.eval x= .slice ax m c) (hy:bP W T ax m ys)
  (h1:∀u∈ys,u.oneCell'=true) (hnone:ax=none->c=0) (h63:n+m<=maxLen) (hbytes:(n+m)*bytes<=140737488355328) (hbase:base<=W.heap.size)
  (h:∀v' w',w'.ownsRow base e 1 v' (n+m) (xs++ys)->W.grownBy w' v.ownBlock->wpList P ops Q rest (a.put o.dst v') w'):wpList P ops Q (o::rest) a W:=by
 refine wpList_plain hgd λK hK=>?_;obtain⟨v',w',hr,h2,h3⟩:=rC (P:=P) E o.type base v n xs hown T ax m c ys hy h1 hnone h63 hbytes hbase;unfold Oper.wp execOp;simp only[ho,resolve,invoke,builtin,Sem.run_bind,Sem.run_pure,Result.andThen_ok,List.map_toArray,List.map_cons,List.map_nil,hs,hx,hr];exact hK _ _ (h v' w' h2 h3)
end
def sS(B:Nat)(x:List UInt8)(v:Value)(W:World):Prop:=∃a n c,v= .slice a n c/\au W (λb=>B<=b) a n c x
theorem sS.later{B:Nat}{x:List UInt8}:∀v W W',sS B x v W->Below W.heap.size W W'->sS B x v W':=
 λ_ _ _ ⟨a,n,c,h1,h2⟩ hb=>⟨a,n,c,h1,h2.ext hb⟩
def En(B:Nat)(x:List UInt8)(v:Value)(W:World):Prop:=∃g a n c,v= .slice (some ⟨g,0,none⟩) 1 1/\B<=g/\g<W.heap.size/\W.cell? ⟨g,0,none⟩=some (.slice a n c)/\au W (λb=>B<=b) a n c x
theorem En.later{B:Nat}{x:List UInt8}:∀v W W',En B x v W->Below W.heap.size W W'->En B x v W':=
 λ_ _ _ ⟨g,a,n,c,h1,h2,h3,h4,h5⟩ hb=>⟨g,a,n,c,h1,h2,Nat.lt_of_lt_of_le h3 hb.size,by rw[hb.cell (p:=⟨g,0,none⟩) h3];exact h4,h5.ext hb⟩
def OJ(S:Nat->Prop)(L:List (List UInt8))(v:Value)(W:World):Prop:=∃a n c,v= .slice a n c/\gK W S a n c L
theorem OJ.later{S:Nat->Prop}{L:List (List UInt8)}:∀v W W',OJ S L v W->Below W.heap.size W W'->OJ S L v W':=
 λ_ _ _ ⟨a,n,c,h1,h2⟩ hb=>⟨a,n,c,h1,h2.ext hb⟩
def dI(W:World)(S:Nat->Prop)(vs:List Value)(L:List (List UInt8)):Prop:=
 vs.length=L.length/\∀(k:Nat) (p:List UInt8),L[k]? =some p->∃pa pl pc,vs[k]? =some (.slice pa pl pc)/\au W S pa pl pc p
theorem dI.ext{W W':World}{S:Nat->Prop}{vs:List Value}{L:List (List UInt8)}(h:dI W S vs L)(hb:Below W.heap.size W W'):dI W' S vs L:=
 ⟨h.1,λk p hk=>by obtain⟨pa,pl,pc,h1,h2⟩:=h.2 k p hk;exact⟨pa,pl,pc,h1,h2.ext hb⟩⟩
theorem dI.mono{W:World}{S T:Nat->Prop}{vs:List Value}{L:List (List UInt8)}(h:dI W S vs L)(hst:∀b,S b->T b):dI W T vs L:=
 ⟨h.1,λk p hk=>by obtain⟨pa,pl,pc,h1,h2⟩:=h.2 k p hk;exact⟨pa,pl,pc,h1,h2.mono hst⟩⟩
theorem dI.append{W:World}{S:Nat->Prop}{vs ws:List Value}{L K:List (List UInt8)}(h:dI W S vs L)(k:dI W S ws K):dI W S (vs++ws) (L++K):=by
 refine⟨by simp[h.1,k.1],λi p hp=>?_⟩;by_cases hi:i<L.length
 .rw[List.getElem?_append_left hi]at hp;obtain⟨pa,pl,pc,h1,h2⟩:=h.2 i p hp;exact⟨pa,pl,pc,by rw[List.getElem?_append_left (by rw[h.1];exact hi)];exact h1,h2⟩
 .rw[List.getElem?_append_right oM]at hp;obtain⟨pa,pl,pc,h1,h2⟩:=k.2 _ p hp;exact⟨pa,pl,pc,by rw[List.getElem?_append_right (by rw[h.1];omega),h.1];exact h1,h2⟩
theorem dI.one{W:World}{S:Nat->Prop}{vs:List Value}{L:List (List UInt8)}(h:dI W S vs L):∀u∈vs,u.oneCell'=true:=λu hu=>by
 obtain⟨k,hk,e⟩:=List.mem_iff_getElem.1 hu;obtain⟨pa,pl,pc,h1,_⟩:=h.2 k (L[k]'(by rw[<- h.1];exact hk)) (List.getElem?_eq_getElem (by rw[<- h.1];exact hk));rw[List.getElem?_eq_getElem hk]at h1;have h2:=Option.some.inj h1;rw[e]at h2;rw[h2];rfl
theorem gK.open_{W:World}{S:Nat->Prop}{a:Option Addr}{n c:Nat}{L:List (List UInt8)}(h:gK W S a n c L):∃vs,bP W S a n vs/\dI W S vs L:=by
 have key:∀i,i<L.length->∃v:Value,∃p,L[i]? =some p/\∃b o pa pl pc,a=some ⟨b,o,none⟩/\b<W.heap.size/\S b/\W.cell? ⟨b,o+i,none⟩=some v/\v= .slice pa pl pc/\au W S pa pl pc p:=λi hi=>by
  obtain⟨b,o,pa,pl,pc,h1,h2,h3,h4,h5⟩:=h.hat i L[i] (List.getElem?_eq_getElem hi);exact⟨_,L[i],List.getElem?_eq_getElem hi,b,o,pa,pl,pc,h1,h2,h3,h4,rfl,h5⟩
 have list:∀m,m<=L.length->∃vs:List Value,vs.length=m/\∀(k:Nat) (v:Value),vs[k]? =some v->∃p,L[k]? =some p/\∃b o pa pl pc,a=some ⟨b,o,none⟩/\b<W.heap.size/\S b/\W.cell? ⟨b,o+k,none⟩=some v/\v= .slice pa pl pc/\au W S pa pl pc p:=by
  intro m;induction m with
  |zero=>intro _;exact⟨[],rfl,λk v hk=>by simp at hk⟩
  |succ m ih=>
   intro hm;obtain⟨vs,hl,hv⟩:=ih oM;obtain⟨v,hv2⟩:=key m oM;refine⟨vs++[v],by simp[hl],λk u hk=>?_⟩;by_cases hkm:k<vs.length
   .rw[List.getElem?_append_left hkm]at hk;exact hv k u hk
   .rw[List.getElem?_append_right oM]at hk;have hlt:=(List.getElem?_eq_some_iff.1 hk).1;simp at hlt;have e:k=m:=oM;subst e;rw[hl,Nat.sub_self]at hk;cases hk;exact hv2
 obtain⟨vs,hl,hv⟩:=list L.length (Nat.le_refl _);refine⟨vs,⟨by rw[hl,h.hlen],λk v hk=>?_⟩,hl,λk p hp=>?_⟩
 .obtain⟨p,_,b,o,_,_,_,h1,h2,h3,h4,_⟩:=hv k v hk;exact⟨b,o,h1,h2,h3,h4⟩
 .have hk:k<vs.length:=by rw[hl];exact(List.getElem?_eq_some_iff.1 hp).1
  obtain⟨p',hp',b,o,pa,pl,pc,_,_,_,_,h5,h6⟩:=hv k vs[k] (List.getElem?_eq_getElem hk);rw[hp]at hp';cases hp';exact⟨pa,pl,pc,by rw[List.getElem?_eq_getElem hk,h5],h6⟩
theorem gK.Ya{W:World}{S:Nat->Prop}{a:Option Addr}{n c:Nat}{L:List (List UInt8)}{vs:List Value}(h:bP W S a n vs)(k:dI W S vs L)(h1:n<=c)(h2:c<=maxLen)(h3:n<=140737488355328)(h4:a=none->c=0):gK W S a n c L:=
 ⟨by rw[<- k.1,h.len],h1,h2,h3,λi p hp=>by
  obtain⟨pa,pl,pc,g1,g2⟩:=k.2 i p hp;obtain⟨b,o,f1,f2,f3,f4⟩:=h.at_ i _ g1;exact⟨b,o,pa,pl,pc,f1,f2,f3,f4,g2⟩,h4⟩
theorem cells_one{W:World}{S:Nat->Prop}{g:Nat}{v:Value}(h1:S g)(h2:g<W.heap.size)(h3:W.cell? ⟨g,0,none⟩=some v):bP W S (some ⟨g,0,none⟩) 1 [v]:=
 ⟨rfl,λk u hk=>by
  match k,hk with
  |0,hk=>cases hk;exact⟨g,0,rfl,h2,h1,h3⟩
  |k+1,hk=>simp at hk⟩
theorem Eo:∀ {L:List (List UInt8)},(L.all λp=> !p.isEmpty)=true->L.length<=(L.map List.length).sum
 |[],_=>by simp
 |p::L,h=>by
  rw[List.all_cons,Bool.and_eq_true]at h;have ih:=Eo h.2;have hp:1<=p.length:=by cases p with|nil=>simp at h|cons=>simp
  simp only[List.length_cons,List.map_cons,List.sum_cons];omega
theorem adk{W0 W W':World}{S:Nat->Prop}{vs:List Value}{L:List (List UInt8)}{x:List UInt8}{a a':Option Addr}{n c c' m:Nat}(hp:dI W S vs L)(hc:bP W' (λb=>(S b/\1=0)\/W.heap.size<=b) a' m (vs++[.slice a n c]))(hB:au W (λb=>W0.heap.size<=b) a n c x)
  (hb:Below W.heap.size W W') (hs:W0.heap.size<=W.heap.size) (h1:m<=c') (h2:c'<=maxLen) (h3:m<=140737488355328) (h4:a'=none->c'=0):gK W' (Or S W0) a' m c' (L++[x]):=by
 refine gK.Ya (hc.mono λb h=>?_) (dI.append ((hp.ext hb).mono λb h=>Or.inl h) ⟨rfl,λk p hk=>?_⟩) h1 h2 h3 h4
 .rcases h with⟨_,h⟩|h
  .cases h
  .exact .inr oM
 .match k,hk with
  |0,hk=>cases hk;exact⟨a,n,c,rfl,(hB.ext hb).mono λb h=>Or.inr h⟩
  |k+1,hk=>simp at hk
theorem FK{P:Program}{o:Oper}{a:Act}{W w':World}{R:Value->World->Prop}{s x:Operand}{t:TypeId}{v1 v2 v':Value}(ho:o.op= .call { callee:= .builtin .append,args:= #[s,x],argTypes:= #[t,t]})(hs:a.eval s=v1)(hx:a.eval x=v2)
  (hr:(Builtin.append_ #[t,t] o.type #[v1,v2]).run P W= .ok v' w') (hb:Below W.heap.size W w') (hR:R v' w'):Gives P o a W R:=by
 unfold Gives execOp;simp only[ho,resolve,invoke,builtin,Sem.run_bind,Sem.run_pure,Result.andThen_ok,List.map_toArray,List.map_cons,List.map_nil,hs,hx,hr];exact⟨hb,hR⟩
theorem dI.same{W W':World}{S:Nat->Prop}{vs:List Value}{L:List (List UInt8)}(h:dI W S vs L)(hs:W.heap.size<=W'.heap.size)(hb:∀b,S b->b<W.heap.size->W'.heap[b]? =W.heap[b]?):dI W' S vs L:=
 ⟨h.1,λk p hk=>by obtain⟨pa,pl,pc,h1,h2⟩:=h.2 k p hk;exact⟨pa,pl,pc,h1,h2.same hs hb⟩⟩
theorem aK{w w':World}{base e size n:Nat}{v:Value}{xs:List Value}(h:w.ownsRow base e size v n xs)(hb:Below w.heap.size w w'):w'.ownsRow base e size v n xs:=by
 refine⟨h.1,?_⟩;rcases h.2 with h2|⟨g,cap,cur,h1,h2,h3,h4⟩
 .exact .inl h2
 .exact .inr ⟨g,cap,cur,h1,h2,(hb.block g (Array.getElem?_eq_some_iff.1 h3).1).trans h3,h4⟩
theorem aV{W0 w w':World}{base B e size n:Nat}{v:Value}{xs:List Value}(hb:Below B W0 w)(hs:B<=w.heap.size)(h:w.ownsRow base e size v n xs)(hB:B<=base)(hg:w.grownBy w' v.ownBlock):Below B W0 w':=
 hb.grown hg hs λk hk=>Nat.le_trans hB (h.lt k hk).1
theorem LY{W:World}{S:Nat->Prop}{a:Option Addr}{n c:Nat}{x:List UInt8}(h:au W S a n c x):dI W S [.slice a n c] [x]:=
 ⟨rfl,λk p hk=>by
  match k,hk with
  |0,hk=>cases hk;exact⟨a,n,c,rfl,h⟩
  |k+1,hk=>simp at hk⟩
structure aP where
 key:List UInt8
 value:List UInt8
 int:Bool
 n:Int
structure dS where
 key:List UInt8
 at_:Int
 red:Red
structure aT where
 leaf:Bool
 items:List aP
 kids:List dS
def bH:List UInt8->List UInt8->Bool
 |[],b=>decide (0<b.length)
 |_::_,[]=>false
 |x::xs,y::ys=>if x=y then bH xs ys else decide (x.toNat<y.toNat)
def fD(x:aP):Bool:=decide (1<=x.key.length)&&(decide (x.key.length<=120)&&(decide (x.value.length<=100)&&(x.int||decide (x.n=0))))
def uG(x:dS):Bool:=decide (1<=x.key.length)&&(decide (x.key.length<=120)&&(decide (1<=x.at_)&&(decide (x.at_<524288)&&(decide (1<=x.red.c)&&x.red.ok))))
def jw(l:List (List UInt8))(i:Nat):Bool:=(List.range i).all λj=>decide (j=0)||bH (l.getD (j-1) []) (l.getD j [])
theorem FM(l:List (List UInt8))(i:Nat):jw l (i+1)=(jw l i&&(decide (i=0)||bH (l.getD (i-1) []) (l.getD i []))):=by
 unfold jw;rw[List.range_succ,List.all_append];simp
def jQ(l:List dS)(i:Nat):Int:=((l.take i).map λx=>x.red.c).sum
def bI(n:aT):Bool:=
 if n.leaf=true then n.items.all fD&&(jw (n.items.map (·.key)) n.items.length&&(decide (1<=n.items.length)&&(decide (n.items.length<=6)&&decide (n.kids.length=0))))
 else decide (2<=n.kids.length)&&(decide (n.kids.length<=6)&&(decide (n.items.length=0)&&(n.kids.all uG&&(jw (n.kids.map (·.key)) n.kids.length&&decide (jQ n.kids n.kids.length<=1073741824)))))
structure aY(W:World)(S:Nat->Prop)(a:Option Addr)(len cap:Nat)(l:List aP):Prop where
 hlen:l.length=len
 hcap:len<=cap
 hmax:cap<=maxLen
 hfew:len<=140737488355328
 hat:∀k x,l[k]? =some x->∃b o ka kl kc va vl vc,a=some ⟨b,o,none⟩/\b<W.heap.size/\S b/\W.cell? ⟨b,o+k*4,none⟩=some (.slice ka kl kc)/\W.cell? ⟨b,o+k*4+1,none⟩=some (.slice va vl vc)/\W.cell? ⟨b,o+k*4+2,none⟩=some (.bool x.int)/\W.cell? ⟨b,o+k*4+3,none⟩=some (.int .i64 x.n)/\au W S ka kl kc x.key/\au W S va vl vc x.value/\eY x.n
 hnil:a=none->cap=0
structure dZ(W:World)(S:Nat->Prop)(a:Option Addr)(len cap:Nat)(l:List dS):Prop where
 hlen:l.length=len
 hcap:len<=cap
 hmax:cap<=maxLen
 hfew:len<=140737488355328
 hat:∀k x,l[k]? =some x->∃b o ka kl kc,a=some ⟨b,o,none⟩/\b<W.heap.size/\S b/\W.cell? ⟨b,o+k*8,none⟩=some (.slice ka kl kc)/\W.cell? ⟨b,o+k*8+1,none⟩=some (.int .i64 x.at_)/\W.cell? ⟨b,o+k*8+2,none⟩=some (.int .i64 x.red.c)/\W.cell? ⟨b,o+k*8+3,none⟩=some (.int .i64 x.red.n)/\W.cell? ⟨b,o+k*8+4,none⟩=some (.int .i64 (hi x.red.s))/\W.cell? ⟨b,o+k*8+5,none⟩=some (.int .u64 (lo x.red.s))/\W.cell? ⟨b,o+k*8+6,none⟩=some (.int .i64 x.red.l)/\W.cell? ⟨b,o+k*8+7,none⟩=some (.int .i64 x.red.m)/\au W S ka kl kc x.key/\eY x.at_/\x.red.fits
 hnil:a=none->cap=0
structure bM(W:World)(S:Nat->Prop)(ia:Option Addr)(il ic:Nat)(ka:Option Addr)(kl kc:Nat)(n:aT):Prop where
 items:aY W S ia il ic n.items
 kids:dZ W S ka kl kc n.kids
theorem aY.same{W W':World}{S:Nat->Prop}{a:Option Addr}{len cap:Nat}{l:List aP}(h:aY W S a len cap l)(hs:W.heap.size<=W'.heap.size)(hb:∀b,S b->b<W.heap.size->W'.heap[b]? =W.heap[b]?):aY W' S a len cap l:=
 ⟨h.hlen,h.hcap,h.hmax,h.hfew,λk x hk=>by
  obtain⟨b,o,ka,kl,kc,va,vl,vc,h1,h2,h3,c0,c1,c2,c3,h4,h5,h6⟩:=h.hat k x hk;have hc:=λj=>World.cell?_of_block (a:=⟨b,j,none⟩) (hb b h3 h2);exact⟨b,o,ka,kl,kc,va,vl,vc,h1,oM,h3,(hc _).trans c0,(hc _).trans c1,(hc _).trans c2,(hc _).trans c3,h4.same hs hb,h5.same hs hb,h6⟩,h.hnil⟩
theorem dZ.same{W W':World}{S:Nat->Prop}{a:Option Addr}{len cap:Nat}{l:List dS}(h:dZ W S a len cap l)(hs:W.heap.size<=W'.heap.size)(hb:∀b,S b->b<W.heap.size->W'.heap[b]? =W.heap[b]?):dZ W' S a len cap l:=
 ⟨h.hlen,h.hcap,h.hmax,h.hfew,λk x hk=>by
  obtain⟨b,o,ka,kl,kc,h1,h2,h3,c0,c1,c2,c3,c4,c5,c6,c7,h4,h5,h6⟩:=h.hat k x hk;have hc:=λj=>World.cell?_of_block (a:=⟨b,j,none⟩) (hb b h3 h2);exact⟨b,o,ka,kl,kc,h1,oM,h3,(hc _).trans c0,(hc _).trans c1,(hc _).trans c2,(hc _).trans c3,(hc _).trans c4,(hc _).trans c5,(hc _).trans c6,(hc _).trans c7,h4.same hs hb,h5,h6⟩,h.hnil⟩
theorem bM.same{W W':World}{S:Nat->Prop}{ia ka:Option Addr}{il ic kl kc:Nat}{n:aT}(h:bM W S ia il ic ka kl kc n)(hs:W.heap.size<=W'.heap.size)(hb:∀b,S b->b<W.heap.size->W'.heap[b]? =W.heap[b]?):bM W' S ia il ic ka kl kc n:=⟨h.items.same hs hb,h.kids.same hs hb⟩
theorem bM.ext{W W':World}{S:Nat->Prop}{ia ka:Option Addr}{il ic kl kc:Nat}{n:aT}(h:bM W S ia il ic ka kl kc n)(hb:Below W.heap.size W W'):bM W' S ia il ic ka kl kc n:=h.same hb.size λb _ h2=>hb.block b h2
theorem OL{a b:List UInt8}{i:Nat}{x y:UInt8}(hx:a[i]? =some x)(hy:b[i]? =some y):bH (a.drop i) (b.drop i)=if x=y then bH (a.drop (i+1)) (b.drop (i+1))else decide (x.toNat<y.toNat):=by
 have hl:=(List.getElem?_eq_some_iff.1 hx).1;have hm:=(List.getElem?_eq_some_iff.1 hy).1;rw[List.drop_eq_getElem_cons hl,List.drop_eq_getElem_cons hm,(List.getElem?_eq_some_iff.1 hx).2,(List.getElem?_eq_some_iff.1 hy).2];rfl
theorem LZ{a b:List UInt8}{i:Nat}(h:¬(i<a.length/\i<b.length))(ha:i<=a.length)(hb:i<=b.length):bH (a.drop i) (b.drop i)=decide (a.length<b.length):=by
 by_cases h1:i<a.length
 .have e:i=b.length:=oM;rw[e,List.drop_length,List.drop_eq_getElem_cons (by omega:b.length<a.length)];show false=_;rw[decide_eq_false oM]
 .have e:i=a.length:=oM;rw[e,List.drop_length];show decide (0<(b.drop a.length).length)=_;rw[List.length_drop];congr 1
  rw[eq_iff_iff];omega
def ig(b:Bool)(x:Int):Red:=if b then⟨1,1,x,x,x⟩else⟨1,0,0,0,0⟩
structure Red.good(r:Red):Prop where
 n0:0<=r.n
 nc:r.n<=r.c
 none:r.n=0->r.s=0/\r.l=0/\r.m=0
 le:r.l<=r.m
 acy: -9223372036854775808<=r.l
 acz:r.m<=9223372036854775807
 low:1<=r.n->r.m+r.l*(r.n-1)<=r.s
 high:1<=r.n->r.s<=r.l+r.m*(r.n-1)
theorem Red.zC:Red.zero.good:=by
 constructor<;>simp[Red.zero]
theorem uH(b:Bool)(x:Int)(h:I64 x):(ig b x).good:=by
 unfold I64 at h;cases b<;>constructor<;>simp[ig]<;>omega
theorem rD{a b k:Int}(h:a<=b)(hk:0<=k):a*k<=b*k:=Int.mul_le_mul_of_nonneg_right h hk
theorem Red.FN{r t:Red}(hr:r.good)(ht:t.good):(r.both t).good:=by
 obtain⟨a1,a2,a3,a4,a5,a6,a7,a8⟩:=hr;obtain⟨b1,b2,b3,b4,b5,b6,b7,b8⟩:=ht;by_cases e2:t.n=0
 .obtain⟨z1,z2,z3⟩:=b3 e2;constructor<;>simp only[Red.both,qZ,wW,uy,uz,if_pos e2]<;>first|assumption|omega
 .by_cases e1:r.n=0
  .obtain⟨z1,z2,z3⟩:=a3 e1;have e1':¬0<r.n:=oM;constructor<;>simp only[Red.both,qZ,wW,uy,uz,if_neg e2,if_neg e1',e1,z1,Int.zero_add]<;>first|assumption|omega
  .have e1':0<r.n:=oM;have c7:=a7 oM;have c8:=a8 oM;have d7:=b7 oM;have d8:=b8 oM;constructor<;>simp only[Red.both,qZ,wW,uy,uz,if_neg e2,if_pos e1']
   .omega
   .omega
   .omega
   .omega
   .omega
   .omega
   .intro _;have p1:=rD (Int.min_le_left r.l t.l) (show 0<=r.n-1 by omega);have p2:=rD (Int.min_le_right r.l t.l) (show 0<=t.n-1 by omega);have p3:min r.l t.l*(r.n+t.n-1)=min r.l t.l*(r.n-1)+min r.l t.l*(t.n-1)+min r.l t.l:=by
     rw[show r.n+t.n-1=(r.n-1)+(t.n-1)+1 by omega,Int.mul_add,Int.mul_add,Int.mul_one]
    rw[p3];generalize min r.l t.l*(r.n-1)=q1 at p1⊢;generalize min r.l t.l*(t.n-1)=q2 at p2⊢;generalize r.l*(r.n-1)=q3 at*;generalize t.l*(t.n-1)=q4 at*;omega
   .intro _;have p1:=rD (Int.le_max_left r.m t.m) (show 0<=r.n-1 by omega);have p2:=rD (Int.le_max_right r.m t.m) (show 0<=t.n-1 by omega);have p3:max r.m t.m*(r.n+t.n-1)=max r.m t.m*(r.n-1)+max r.m t.m*(t.n-1)+max r.m t.m:=by
     rw[show r.n+t.n-1=(r.n-1)+(t.n-1)+1 by omega,Int.mul_add,Int.mul_add,Int.mul_one]
    rw[p3];generalize max r.m t.m*(r.n-1)=q1 at p1⊢;generalize max r.m t.m*(t.n-1)=q2 at p2⊢;generalize r.m*(r.n-1)=q3 at*;generalize t.m*(t.n-1)=q4 at*;omega
theorem Ep{s:Int}(h1: -170141183460469231731687303715884105728<=s)(h2:s<170141183460469231731687303715884105728):sg s=s:=by
 unfold sg hi lo;rw[dQ];omega
theorem Red.Uy{r:Red}(h:r.good)(hc:r.c<=1073741824):r.ok=true:=by
 obtain⟨a1,a2,a3,a4,a5,a6,a7,a8⟩:=h;unfold Red.ok VN;rw[if_neg oM];by_cases e0:r.n=0
 .obtain⟨z1,z2,z3⟩:=a3 e0;rw[if_pos e0];simp[z1,z2,z3,jF,jG]
 .rw[if_neg e0];have b7:=a7 oM;have b8:=a8 oM;by_cases e1:r.n=1
  .rw[if_pos e1];rw[e1]at b7 b8;have h1:r.l=r.m:=oM;have h2:r.s=r.l:=oM;rw[<- h1,h2];simp
  .rw[if_neg e1];have hn:0<=r.n-1:=oM;have p1:=rD a5 hn;have p2:=rD a6 hn;have p3:=rD (Int.le_trans a4 a6) hn;have p4:=rD (Int.le_trans a5 a4) hn;have q1:r.l+r.m+r.l*(r.n-2)=r.m+r.l*(r.n-1):=by
    rw[show r.n-1=(r.n-2)+1 by omega,Int.mul_add,Int.mul_one];omega
   have q2:r.l+r.m+r.m*(r.n-2)=r.l+r.m*(r.n-1):=by
    rw[show r.n-1=(r.n-2)+1 by omega,Int.mul_add,Int.mul_one];omega
   rw[q1,q2];generalize r.l*(r.n-1)=x at*;generalize r.m*(r.n-1)=y at*;unfold jB;rw[Ep (s:=r.s) oM oM,Ep (s:=r.m+x) oM oM,Ep (s:=r.l+y) oM oM];simp;omega
def xX(l:List Red):Red:=l.foldl Red.both Red.zero
theorem CZ:∀(l:List Red) (a:Red),a.good->(∀r∈l,r.good)->(l.foldl Red.both a).good
 |[],_,h,_=>h
 |x::l,a,h,hl=>CZ l (a.both x) (Red.FN h (hl x (by simp))) λr hr=>hl r (by simp[hr])
theorem zD{l:List Red}(h:∀r∈l,r.good):(xX l).good:=CZ l _ Red.zC h
theorem OM:∀(l:List Red) (a:Red),(l.foldl Red.both a).c=a.c+(l.map Red.c).sum
 |[],a=>by simp
 |x::l,a=>by
  rw[List.foldl_cons,OM l];simp only[Red.both,List.map_cons,List.sum_cons];omega
end Go.Dav
namespace Go.Proofs.YtenmnhnlcnmloaaGreat
open Go.RowKit Go.Dav
attribute [local go_sem] ite_val ay
theorem kJ(aa ba:Option Addr)(al ac bl bc:Nat)(a b:List UInt8)(w:World)(ha:BytesAt w aa al ac a)(hb:BytesAt w ba bl bc b):
  Calls Tryz.prog 65 #[.slice aa al ac, .slice ba bl bc] w λe w'=>e= .returned (.bool (bH a b))/\Below w.heap.size w w':=by
 have HA:=Hd ha;have HB:=Hd hb;obtain⟨r,hr⟩:∃r,bH a b=r:=⟨_,rfl⟩;rw[hr];have hal:=ha.hlen;have hbl:=hb.hlen;have haf:=ha.hfew;have hbf:=hb.hfew;have HR:=Hd hr;clear hr ha hb;go_enter Tryz.func65,Tryz.ntmps65;go_wp2_with fail;go_loopw [5] (λix wr=>∃i:Nat,i<=al/\i<=bl/\ix= .int .i64 (i:Int)/\bH (a.drop i) (b.drop i)=r/\Below w.heap.size w wr) (λix _=>al-(intOf ix).toNat)
 case atStart=>exact⟨0,Nat.zero_le _,Nat.zero_le _,by go_num,by simpa using HR.o,Below.refl _ _⟩
 case round=>
  obtain⟨i,hia,hib,rfl,hst,hbel⟩:=hrel;have HBE:=Hd hbel;have HST:=Hd hst;clear hbel hst;by_cases hlt:i<al/\i<bl
  .obtain⟨u,hu⟩:∃u,a[i]? =some u:=⟨_,List.getElem?_eq_getElem oM⟩;obtain⟨v,hv⟩:∃v,b[i]? =some v:=⟨_,List.getElem?_eq_getElem oM⟩;obtain⟨ab,ao,rfl,hab,ZA⟩:=(HA.o.ext HBE.o).hat i u hu;obtain⟨bb,bo,rfl,hbb,ZB⟩:=(HB.o.ext HBE.o).hat i v hv;have g2:(i:Int)<(al:Int):=oM;have g3:(i:Int)<(bl:Int):=oM;have hgo:=HST.o;rw[OL hu hv]at hgo;have HLT:=Hd hlt;by_cases huv:u=v
   .subst huv;rw[if_pos rfl]at hgo;have HGO:=Hd hgo;clear hgo hlt hia hib hu hv HST HR;go_wp2_with fail;go_quiet (fail);go_wp2_with fail;go_roundw
    case rel=>exact⟨i+1,HLT.o.1,HLT.o.2,by go_num,HGO.o,by have h:=HBE.o;exact(by have hz:=h;exact bV)⟩
    case measure=>have:=HLT.o;simp[intOf];omega
   .rw[if_neg huv]at hgo;have hne:((u.toNat:Int) !=(v.toNat:Int))=true:=by
     rw[bne_iff_ne];intro e;apply huv;exact UInt8.toNat_inj.1 oM
    have HGO:=Hd hgo;by_cases hlt2:u.toNat<v.toNat
    .have g4:(u.toNat:Int)<(v.toNat:Int):=oM;have e:r=true:=by rw[<- HGO.o,decide_eq_true hlt2]
     clear hgo hlt hia hib hu hv HST HR huv hlt2 HGO;subst e;go_wp2_with fail;go_quiet (fail);go_wp2_with fail;go_quiet (fail);go_wp2;go_ret;exact⟨by first|rfl|(simp;omega),by have h:=HBE.o;exact(by have hz:=h;exact bV)⟩
    .have g4:¬(u.toNat:Int)<(v.toNat:Int):=oM;have e:r=false:=by rw[<- HGO.o,decide_eq_false hlt2]
     clear hgo hlt hia hib hu hv HST HR huv hlt2 HGO;subst e;go_wp2_with fail;go_quiet (fail);go_wp2_with fail;go_quiet (fail);go_wp2;go_ret;exact⟨by first|rfl|(simp;omega),by have h:=HBE.o;exact(by have hz:=h;exact bV)⟩
  .have e:r=decide (al<bl):=by
    have h:=HST.o;rw[LZ (by rw[hal,hbl];exact hlt) oM oM,hal,hbl]at h;exact h.symm
   clear HST HR;subst e;by_cases h1:i<al
   .have g2:(i:Int)<(al:Int):=oM;have g3:¬(i:Int)<(bl:Int):=oM;clear hlt hia hib;go_wp2;go_ret;exact⟨by simp,by have h:=HBE.o;exact(by have hz:=h;exact bV)⟩
   .have g2:¬(i:Int)<(al:Int):=oM;clear hlt hia hib;go_wp2;go_ret;exact⟨by simp,by have h:=HBE.o;exact(by have hz:=h;exact bV)⟩
end Go.Proofs.YtenmnhnlcnmloaaGreat
namespace Go.Proofs.YtenmnhnlcnmloaaGreat
open Go.RowKit Go.Dav
attribute [local go_sem] Gives ite_val ay
theorem zF(n:Int)(w:World)(h:I64 n):
  Calls Tryz.prog 70 #[.int .i64 n] w λe w'=>e= .returned (.agg #[.int .i64 (hi n), .int .u64 (lo n)])/\Below w.heap.size w w':=by
 have e1:=X9 h;have e2:=VL n;have H:=Hd e1;clear e1;have H2:=Hd e2;clear e2;clear h;go_enter Tryz.func70,Tryz.ntmps70;go_wp2;refine bodyPost_ret (v:= .agg #[.int .i64 (hi n), .int .u64 (lo n)]) (by simp[results,Tryz.results70,go_sem,H.o,H2.o]) rfl ⟨rfl,?_⟩;exact(Below.refl _ _).alloc (Nat.le_refl _) _
theorem lG(x y:Int)(w:World):
  Calls Tryz.prog 123 #[.agg #[.int .i64 (hi x), .int .u64 (lo x)], .agg #[.int .i64 (hi y), .int .u64 (lo y)]] w λe w'=>
   e= .returned (.agg #[.int .i64 (hi (x+y)), .int .u64 (lo (x+y))])/\Below w.heap.size w w':=by
 have el:=TN x y;by_cases h:lo (x+y)<lo x
 .have e1:=CY x y ((carry x y).1 h);go_enter Tryz.func123,Tryz.ntmps123;go_wp2;refine bodyPost_ret (v:= .agg #[.int .i64 (hi (x+y)), .int .u64 (lo (x+y))]) (by simp[results,Tryz.results123,go_sem]) rfl ⟨rfl,?_⟩;exact(((Below.refl _ _).alloc (Nat.le_refl _) _).alloc (by simp) _).alloc (by simp;omega) _
 .have e1:=FB x y (λhc=>h ((carry x y).2 hc));go_enter Tryz.func123,Tryz.ntmps123;go_wp2;refine bodyPost_ret (v:= .agg #[.int .i64 (hi (x+y)), .int .u64 (lo (x+y))]) (by simp[results,Tryz.results123,go_sem]) rfl ⟨rfl,?_⟩;exact(((Below.refl _ _).alloc (Nat.le_refl _) _).alloc (by simp) _).alloc (by simp;omega) _
theorem xk(x y:Int)(w:World):
  Calls Tryz.prog 72 #[.agg #[.int .i64 (hi x), .int .u64 (lo x)], .agg #[.int .i64 (hi y), .int .u64 (lo y)]] w λe w'=>
   e= .returned (.bool (jB x y))/\Below w.heap.size w w':=by
 have hx:=Ou x;have hy:=Ou y;have key:jB x y=(decide (hi y<hi x)||(decide (hi x=hi y)&&decide (lo y<lo x))):=by
  unfold jB sg;rw[Bool.eq_iff_iff];simp;omega
 rw[key];have H:=Hd hx;clear hx;have H2:=Hd hy;clear hy;clear key H H2;generalize hi x=a;generalize hi y=b;generalize lo x=c;generalize lo y=d;by_cases g1:b<a
 .go_enter Tryz.func72,Tryz.ntmps72;go_wp2;go_ret;exact⟨by simp[g1],((Below.refl _ _).alloc (Nat.le_refl _) _).alloc (by simp) _⟩
 .by_cases g2:a=b
  .subst g2;go_enter Tryz.func72,Tryz.ntmps72;go_wp2;go_ret;exact⟨by simp,((Below.refl _ _).alloc (Nat.le_refl _) _).alloc (by simp) _⟩
  .have g3:(a==b)=false:=by simpa using g2
   go_enter Tryz.func72,Tryz.ntmps72;go_wp2;go_ret;exact⟨by simp[g1],((Below.refl _ _).alloc (Nat.le_refl _) _).alloc (by simp) _⟩
theorem jM(c n s l m:Int)(w:World):
  Calls Tryz.prog 69 #[.agg #[.int .i64 c, .int .i64 n, .int .i64 (hi s), .int .u64 (lo s), .int .i64 l, .int .i64 m]] w λe w'=>
   e= .returned (.agg #[.int .i64 (hi s), .int .u64 (lo s)])/\Below w.heap.size w w':=by
 go_enter Tryz.func69,Tryz.ntmps69;go_wp2;refine bodyPost_ret (v:= .agg #[.int .i64 (hi s), .int .u64 (lo s)]) (by simp[results,Tryz.results69,go_sem]) rfl ⟨rfl,?_⟩;exact((Below.refl _ _).alloc (Nat.le_refl _) _).alloc (by simp) _
theorem zG(c n h l0 l m s:Int)(w:World):
  Calls Tryz.prog 73 #[.agg #[.int .i64 c, .int .i64 n, .int .i64 h, .int .u64 l0, .int .i64 l, .int .i64 m], .agg #[.int .i64 (hi s), .int .u64 (lo s)]] w λe w'=>
   e= .returned (.agg #[.int .i64 c, .int .i64 n, .int .i64 (hi s), .int .u64 (lo s), .int .i64 l, .int .i64 m])/\Below w.heap.size w w':=by
 go_enter Tryz.func73,Tryz.ntmps73;go_wp2;go_region
 go_wp2;refine bodyPost_ret (v:= .agg #[.int .i64 c, .int .i64 n, .int .i64 (hi s), .int .u64 (lo s), .int .i64 l, .int .i64 m]) (by simp[results,Tryz.results73,go_sem]) rfl ⟨rfl,?_⟩;exact((((Below.refl _ _).alloc (Nat.le_refl _) _).alloc (by simp) _).alloc (by simp;omega) _).drew
end Go.Proofs.YtenmnhnlcnmloaaGreat

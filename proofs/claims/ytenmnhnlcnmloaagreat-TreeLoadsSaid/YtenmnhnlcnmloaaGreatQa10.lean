/- Part of a proof of a law of the layer of trees. -/
import Derived.Test.YtenmnhnlcnmloaaGreatQa09
import Derived.Laws.AppendOwnNone
import Derived.ArgAppend
import Derived.Deep.MidRow
import Derived.Laws.IdiomStrings
import Derived.Lib.BufferRead
import Derived.IntWalk
import Derived.LoopN
import Derived.Test.YtenmnhnlcnmloaaGreatQa04
import Derived.Test.YtenmnhnlcnmloaaGreatQa02
import Derived.Test.YtenmnhnlcnmloaaGreatQa01
set_option linter.unusedVariables false
set_option linter.unusedSimpArgs false
set_option maxHeartbeats 8000000
set_option maxRecDepth 8000
namespace Go.Dav
open Go Go.RowKit
def dG(P:Program)(K:World->World->Prop)(o:Oper)(a:Act)(W:World)(R:Value->World->Prop):Prop:=
 match (execOp a.eval o).run P W with
 | .ok (.value u) W'=>K W W'/\R u W'
 | .ok .skip W'=>K W W'/\R undef W'
 | .ok (.enter f args) W'=>Below W.heap.size W W'/\Calls P f args W' (λe W''=>∃v,e= .returned v/\K W' W''/\R v W'')
 |_=>False
def Bel(W W':World):Prop:=Below W.heap.size W W'
structure Goes(K:World->World->Prop):Prop where
 bel:∀W W',Below W.heap.size W W'->K W W'
 trans:∀A B C,K A B->K B C->K A C
theorem Rw:Goes Bel:=⟨λ_ _ h=>h,λ_ _ _ h k=>oP h k⟩
def oW(K:World->World->Prop)(p i:Nat):World->World->Prop:=if i=p then K else Bel
theorem Rx{K:World->World->Prop}(g:Goes K){p i:Nat}{W W':World}(h:oW K p i W W'):K W W':=by
 unfold oW at h;split at h
 .exact h
 .exact g.bel _ _ h
theorem Ph{K:World->World->Prop}(g:Goes K){p i:Nat}{W W':World}(h:Below W.heap.size W W'):oW K p i W W':=by
 unfold oW;split
 .exact g.bel _ _ h
 .exact h
theorem MF{K:World->World->Prop}(g:Goes K)(p i:Nat):Goes (oW K p i):=by
 unfold oW;split
 .exact g
 .exact Rw
theorem Gq{P:Program}{K0:World->World->Prop}(g:Goes K0){o:Oper}{a:Act}{W:World}{R:Value->World->Prop}{K:Act->World->Prop}{Q:Exit->Act->World->Prop}
  (h:dG P K0 o a W R) (hk:∀v W',K0 W W'->R v W'->K (a.put o.dst v) W'):o.wp P a W K Q:=by
 unfold dG at h;unfold Oper.wp;generalize(execOp a.eval o).run P W=r at*;cases r with
 |ok n w'=>
  cases n<;>simp only[Oper.upon]at h⊢
  case value u=>exact hk _ _ h.1 h.2
  case skip=>exact hk _ _ h.1 h.2
  case enter f args=>
   refine h.2.mono λe w'' ⟨v,he,hb,hr⟩=>?_;subst he;exact hk _ _ (g.trans _ _ _ (g.bel _ _ h.1) hb) hr
 |halt x w'=>cases h
theorem dG.kE{P:Program}{K:World->World->Prop}{o:Oper}{a a':Act}{W:World}{R:Value->World->Prop}(h:dG P K o a W R)(he:execOp a'.eval o=execOp a.eval o):dG P K o a' W R:=by
 unfold dG at*;rwa [he]
section
variable{P:Program}{ops:Array Oper}{K0:World->World->Prop}{p0:Nat}
structure UE(K0:World->World->Prop)(p0:Nat)(ops:Array Oper)(n:Nat)(ps:Nat->Value ⊕ (Value->World->Prop))(a0:Act)(w0:World)(listed:Array Bool)(vs:Nat->Value)(a:Act)(W:World):Prop where
 ext:K0 w0 W
 XD:listed.getD p0 false=false->Below w0.heap.size w0 W
 size:a.tmps.size=a0.tmps.size
 defers:a.defers=a0.defers
 slots:∀t:Nat,a.tmps[t]? =dR ops (λj=>listed.getD j false) vs a0 n t
 held:∀j,j<n->listed.getD j false=true->dH (ps j) (vs j) W
def kX(P:Program)(K0:World->World->Prop)(p0:Nat)(ops:Array Oper)(ps:Nat->Value ⊕ (Value->World->Prop))(a0:Act)(w0:World)(vs:Nat->Value)(i:Nat):Prop:=
 match ops[i]? with
 |none=>True
 |some o=>∀W,K0 w0 W->(i=p0->Below w0.heap.size w0 W)->kU ops ps vs o W i->
   if Region.wanted o (yielded ops (lay ops vs a0 i).tmps)then dG P (oW K0 p0 i) o (lay ops vs a0 i) W (dH (ps i))else dH (ps i) undef W
def uh(K0:World->World->Prop)(p0 j:Nat)(R:Value->World->Prop):Prop:=(∀v W W',R v W->Below W.heap.size W W'->R v W')/\(j≠p0->∀v W W',R v W->K0 W W'->R v W')
theorem uh.step{j i:Nat}{R:Value->World->Prop}(h:uh K0 p0 j R)(hne:j≠i){v:Value}{W W':World}(hR:R v W)(hr:oW K0 p0 i W W'):R v W':=by
 unfold oW at hr;split at hr
 .rename_i e;exact h.2 (by rw[<- e];exact hne) v W W' hR hr
 .exact h.1 v W W' hR hr
theorem Gs(g:Goes K0){n:Nat}{ps:Nat->Value ⊕ (Value->World->Prop)}{a0:Act}{w0:World}{listed:Array Bool}{vs:Nat->Value}{a:Act}{W:World}{Q:Exit->Act->World->Prop}
  (hB:yO ops n=true) (hsel:Region.noSelect ops=true) (hst:∀j R,ps j= .inr R->uh K0 p0 j R)
  (hop:∀vs i,i<n->kX P K0 p0 ops ps a0 w0 vs i) (inv:HeadInv .any ops n listed) (mid:UE K0 p0 ops n ps a0 w0 listed vs a W)
  {i:Nat} (hr:i∈Region.ready .any ops listed) (hin:i<n) {K:Act->World->Prop}
  (hk:∀vs a W,HeadInv .any ops n (listed.setIfInBounds i true)->UE K0 p0 ops n ps a0 w0 (listed.setIfInBounds i true) vs a W->K a W):wpOp P ops Q i K a W:=by
 obtain⟨hun,oi,hoi,hall⟩:=mem_ready.1 hr;have yP:listed.getD i false=false:=getD_both hun;have hisz:i<listed.size:=by rw[inv.size];exact(Array.getElem?_eq_some_iff.1 hoi).1
 have later:∀j oj d,j<n->ops[j]? =some oj->oj.dst=some d->listed.getD j false=true->(d∈oi.looksAt ops\/oi.dst=some d)->j<i:=by
  intro j oj d hj hoj hd hl hlook;have hji:i≠j:=λe=>by subst e;rw[yP]at hl;cases hl
  obtain⟨_,h1,_⟩:=iG hB hin hj hoi hoj hd (hlook.imp id λh=>⟨h,hji⟩);rcases Nat.lt_trichotomy i j with h|h|h
  .obtain⟨oj',LX,e,he,hb,hon⟩:=Region.waitsFor_spec (h1 h);have:=inv.closed j oj' LX hl e he hb;rw[hon,yP]at this;cases this
  .exact absurd h hji
  .exact h
 have early:∀j oj d,j<i->ops[j]? =some oj->oj.dst=some d->(d∈oi.looksAt ops)->listed.getD j false=true:=by
  intro j oj d hj hoj hd hlook;obtain⟨_,_,h2⟩:=iG hB hin oM hoi hoj hd (.inl hlook);obtain⟨oi',hoi',e,he,hb,hon⟩:=Region.waitsFor_spec (h2 hj);have:oi'=oi:=Option.some.inj (hoi'.symm.trans hoi);subst this;have:=hall e he hb;rwa [hon]at this
 have looks:∀t∈oi.looksAt ops,(lay ops vs a0 i).tmps[t]? =a.tmps[t]?:=by
  intro t ht;rw[dM,mid.slots t];unfold dR;rw[iw (ops:=ops) (t:=t) (p:=λ_=>true) (q:=λj=>listed.getD j false) (m:=i) (n:=n) ?_];intro j;constructor
  .rintro⟨h1,_,h3⟩;obtain⟨oj,hoj,hd⟩:=Option.bind_eq_some_iff.1 h3;exact⟨oM,early j oj t h1 hoj hd ht,h3⟩
  .rintro⟨h1,h2,h3⟩;obtain⟨oj,hoj,hd⟩:=Option.bind_eq_some_iff.1 h3;exact⟨later j oj t h1 hoj hd h2 (.inl ht),rfl,h3⟩
 have Jm:kU ops ps vs oi W i:=ny i λj d hj hd hl=>by
  obtain⟨oj,hoj,hd'⟩:=Option.bind_eq_some_iff.1 hd;exact mid.held j oM (early j oj d hj hoj hd' hl)
 have hs:=hop vs i hin;unfold kX at hs;simp only[hoi]at hs;have hs:=hs W mid.ext (λe=>mid.XD (by rw[<- e];exact yP)) Jm;rw[gy looks]at hs;have next:∀v W',oW K0 p0 i W W'->dH (ps i) v W'->K (a.put oi.dst v) W':=by
  intro v W' hb hv;refine hk (λj=>if j=i then v else vs j) _ W' (inv.set hr hin) ⟨g.trans _ _ _ mid.ext (Rx g hb),λhp0=>?_,by rw[sJ,mid.size],by rw[put_defers,mid.defers],λt=>?_,λj hj hl=>?_⟩
  .have hne:p0≠i:=λe=>by subst e;simp[hisz]at hp0
   have hb':Below W.heap.size W W':=by unfold oW at hb;rw[if_neg (λe=>hne e.symm)]at hb;exact hb
   exact oP (mid.XD (by rwa [getD_set_ne false (Ne.symm hne)]at hp0)) hb'
  .rw[wX,mid.size];unfold dR;by_cases hd:oi.dst=some t
   .simp only[hd,if_true];have:eX ops (λj=>(listed.setIfInBounds i true).getD j false) t n=some i:=by
     cases hc:eX ops (λj=>(listed.setIfInBounds i true).getD j false) t n with
     |none=>exact absurd ⟨by simp[hisz],by simp[hoi,hd]⟩ (jL hc i hin)
     |some j=>
      obtain⟨c1,c2,c3,c4⟩:=bC hc;obtain⟨oj,hoj,hdj⟩:=Option.bind_eq_some_iff.1 c3;by_cases e:j=i
      .rw[e]
      .have hlj:listed.getD j false=true:=by rwa [getD_set_ne false (Ne.symm e)]at c2
       have:=later j oj t c1 hoj hdj hlj (.inr hd);exact absurd ⟨by simp[hisz],by simp[hoi,hd]⟩ (c4 i this hin)
    rw[this];simp
   .simp only[hd,if_false];rw[mid.slots t];unfold dR;have:eX ops (λj=>(listed.setIfInBounds i true).getD j false) t n=eX ops (λj=>listed.getD j false) t n:=by
     refine iw λj=>?_;by_cases e:j=i
     .subst e;simp[hoi,hd]
     .rw[getD_set_ne false (Ne.symm e)]
    rw[this];cases hc:eX ops (λj=>listed.getD j false) t n with
    |none=>rfl
    |some j=>
     obtain⟨c1,c2,c3,c4⟩:=bC hc;have e:j≠i:=λe=>by subst e;simp[hoi,hd]at c3
     simp[e]
  .by_cases e:j=i
   .subst e;simpa using hv
   .simp only[e,if_false];have hl':listed.getD j false=true:=by rwa [getD_set_ne false (Ne.symm e)]at hl
    have h1:=mid.held j hj hl';cases hp:ps j with
    |inl u=>simpa[hp,dH]using h1
    |inr R=>simp only[hp,dH]at h1⊢;exact(hst j R hp).step e h1 hb
 unfold wpOp;simp only[hoi];split
 .rename_i hw;simp only[hw,if_true]at hs;exact .inl (Gq (MF g p0 i) (hs.kE (iI (λcs b=>Region.noSelect_spec hsel i oi cs b hoi) (λt ht=>(looks t ht).symm))) next)
 .rename_i hw;simp only[hw]at hs;exact next _ _ (Ph g (Below.refl _ _)) (by simpa using hs)
theorem EC(g:Goes K0){n:Nat}{ps:Nat->Value ⊕ (Value->World->Prop)}{a0:Act}{w0:World}{Q:Exit->Act->World->Prop}{l:List Oper}
  (hl:∀j:Nat,l[j]? =ops[n+j]?) (hll:l.length=ops.size-n)
  (hB:nT ops n=true) (hst:∀j R,ps j= .inr R->uh K0 p0 j R)
  (hop:∀vs i,i<n->kX P K0 p0 ops ps a0 w0 vs i)
  (hend:∀vs W,K0 w0 W->kF ps vs W n->wpList P ops Q l (lay ops vs a0 n) W):
  ∀(f:Nat) (listed:Array Bool) (vs:Nat->Value) (a:Act) (W:World),HeadInv .any ops n listed->UE K0 p0 ops n ps a0 w0 listed vs a W->cnt listed n=f->
   wpAny P .any ops Q (f+(ops.size-n)) listed a W:=by
 simp only[nT,Bool.and_eq_true,decide_eq_true_eq]at hB;obtain⟨⟨⟨⟨⟨hsel,wY⟩,hback⟩,hn⟩,OG⟩,hseq⟩:=hB;have htail:n=ops.size\/(Region.sinkB .any ops n=true/\Region.chainB .any ops n=true):=by simpa using OG
 intro f;induction f with
 |zero=>
  intro listed vs a W inv mid hc;have hall:=qh listed n hc;have uD:listed=(Array.range ops.size).map λj=>decide (j<n):=by
   apply Array.ext
   .simp[inv.size]
   .intro j h1 h2;simp only[Array.getElem_map,Array.getElem_range];by_cases hj:j<n
    .have:=hall j hj;simp only[h1,Array.getD_eq_getD_getElem?,Array.getElem?_eq_getElem,Option.getD_some]at this;simp[hj,this]
    .have:=getD_both (inv.tail j oM (by simpa using h2));simp only[h1,Array.getD_eq_getD_getElem?,Array.getElem?_eq_getElem,Option.getD_some]at this;simp[hj,this]
  have ha:a=lay ops vs a0 n:=oD (λt=>by
   rw[dM,mid.slots t];unfold dR;rw[iw (ops:=ops) (t:=t) (p:=λj=>listed.getD j false) (q:=λ_=>true) (m:=n) (n:=n) ?_];intro j;constructor
   .rintro⟨h1,_,h3⟩;exact⟨h1,rfl,h3⟩
   .rintro⟨h1,_,h3⟩;exact⟨h1,hall j h1,h3⟩) (by rw[mid.defers,eP])
  have h:=hend vs W mid.ext (oQ n λj hj=>mid.held j hj (hall j hj));rw[Nat.zero_add,<- hll];rw[<- uD,<- hll]at hseq;rw[ha];exact wpAny_of_seq l n listed _ W hl hseq h
 |succ f ih=>
  intro listed vs a W inv mid hc;obtain⟨i0,hi0,hu0,hlow⟩:=iJ listed n oM;rw[show f+1+(ops.size-n)=(f+(ops.size-n))+1 by omega];refine⟨λh=>?_,λi hi=>?_⟩
  .exfalso;have h1:=List.all_eq_true.1 hback i0 (List.mem_range.2 hi0);cases ho:ops[i0]? with
   |none=>simp[ho]at h1
   |some o=>
    simp only[ho]at h1;have:i0∈Region.ready .any ops listed:=by
     refine mem_ready.2 ⟨getD_in (by rw[inv.size];omega) hu0,o,ho,λe he hb=>?_⟩;have h2:=Array.all_eq_true'.1 h1 e he;simp only[hb,Bool.not_true,Bool.false_or,decide_eq_true_eq]at h2;exact hlow e.on h2
    rw[h]at this;cases this
  .have hin:i<n:=by
    rcases Nat.lt_or_ge i n with h|h
    .exact h
    .rcases htail with ht|ht
     .obtain⟨_,o,ho,_⟩:=mem_ready.1 hi;have:=(Array.getElem?_eq_some_iff.1 ho).1;omega
     .rcases Nat.lt_or_ge n ops.size with hns|hns
      .exact absurd hi (tail_waits ht.1 ht.2 hns inv _ i0 rfl hi0 (getD_in (by rw[inv.size];omega) hu0) i h)
      .obtain⟨_,o,ho,_⟩:=mem_ready.1 hi;have:=(Array.getElem?_eq_some_iff.1 ho).1;omega
   have hun:=(mem_ready.1 hi).1;refine Gs g wY hsel hst hop inv mid hi hin λvs' a' W' Rt mid'=>ih _ vs' a' W' Rt mid' ?_;have:=ru listed i (by rw[inv.size];omega) (getD_both hun) n hin;omega
theorem yU(g:Goes K0){id:Nat}{ops:List Oper}{Q:Exit->Act->World->Prop}{a:Act}{w:World}(n:Nat)(ps:Nat->Value ⊕ (Value->World->Prop))(hm:P.follows .mixedOrders=true)(hB:nT ops.toArray n=true)
  (hst:∀j R,ps j= .inr R->uh K0 p0 j R)
  (hop:∀vs i,i<n->kX P K0 p0 ops.toArray ps a w vs i)
  (hend:∀vs W,K0 w W->kF ps vs W n->wpList P ops.toArray Q (ops.drop n) (lay ops.toArray vs a n) W):(Code.region id ops.toArray true).wp P Q a w:=by
 have hn:n<=ops.toArray.size:=by
  simp only[nT,Bool.and_eq_true,decide_eq_true_eq]at hB;exact hB.1.1.2
 have he:K0 w { w with drawn:=w.drawn+1}:=g.bel _ _ (Below.refl _ _).drew;have hc:∀m,cnt (Array.replicate ops.toArray.size false) m=m:=λm=>by
  induction m with
  |zero=>rfl
  |succ m ih=>rw[cnt,ih,getD_replicate_false];rfl
 refine wp_region_any hm ?_;have:=EC g (P:=P) (ops:=ops.toArray) (l:=ops.drop n) (λj=>by simp[List.getElem?_drop]) (by simp) hB hst hop hend n (Array.replicate ops.toArray.size false) (λ_=>undef) a { w with drawn:=w.drawn+1}
  ⟨by simp,λj oj _ hl=>(by rw[getD_replicate_false]at hl;cases hl),λt _ ht=>getD_in (by simpa using ht) (getD_replicate_false _ _)⟩
  ⟨he,λ_=>(Below.refl _ _).drew,rfl,rfl,λt=>?_,λj _ hl=>(by rw[getD_replicate_false]at hl;cases hl)⟩ (hc n)
 .rwa [show n+(ops.toArray.size-n)=ops.toArray.size by omega]at this
 .unfold dR;rw[show eX ops.toArray (λj=>(Array.replicate ops.toArray.size false).getD j false) t n=none from ?_];cases h:eX ops.toArray (λj=>(Array.replicate ops.toArray.size false).getD j false) t n with
  |none=>rfl
  |some j=>have:=(bC h).2.1;rw[getD_replicate_false]at this;cases this
end
section
variable{P:Program}{K0:World->World->Prop}{p0:Nat}
def eu(P:Program)(K0:World->World->Prop)(p0:Nat)(ops:Array Oper)(w:World)(Q:Exit->Act->World->Prop):Nat->List Oper->List Piece->List (Tmp×(World->Prop))->Act->Prop
 |k,o::os, .inl v::ps,G,a=>
  (if Region.wanted o (yielded ops a.tmps)then(∀W,K0 w W->(k=p0->Below w.heap.size w W)->near ops o G W->dG P (oW K0 p0 k) o a W (λu _=>u=v))else undef=v)/\eu P K0 p0 ops w Q (k+1) os ps G (a.put o.dst v)
 |k,o::os, .inr R::ps,G,a=>
  (uh K0 p0 k R/\Region.wanted o (yielded ops a.tmps)=true/\(∀W,K0 w W->(k=p0->Below w.heap.size w W)->near ops o G W->dG P (oW K0 p0 k) o a W R))/\
   ∀u,eu P K0 p0 ops w Q (k+1) os ps (match o.dst with|some d=>(d,R u)::G|none=>G) (a.put o.dst u)
 |_,os,_,G,a=>∀W,K0 w W->every G W->wpList P ops Q os a W
end
section
variable{P:Program}{ops:Array Oper}{K0:World->World->Prop}{p0:Nat}
theorem uP{w:World}{Q:Exit->Act->World->Prop}{a:Act}{qs:Nat->Piece}(vs:Nat->Value):
  ∀(l:List Oper) (ps:List Piece) (k:Nat),(∀j:Nat,l[j]? =ops[k+j]?)->(∀j p,ps[j]? =some p->qs (k+j)=p)->ps.length<=l.length->
   eu P K0 p0 ops w Q k l ps (facts ops qs vs k) (lay ops (fixed qs vs) a k)->
   (∀i,k<=i->i<k+ps.length->∃o,ops[i]? =some o/\∀W,K0 w W->(i=p0->Below w.heap.size w W)->near ops o (facts ops qs vs i) W->
    (if Region.wanted o (yielded ops (lay ops (fixed qs vs) a i).tmps)then dG P (oW K0 p0 i) o (lay ops (fixed qs vs) a i) W (dH (qs i))else dH (qs i) undef W))/\
   (∀i R,k<=i->i<k+ps.length->qs i= .inr R->uh K0 p0 i R)/\
   (∀W,K0 w W->every (facts ops qs vs (k+ps.length)) W->wpList P ops Q (l.drop ps.length) (lay ops (fixed qs vs) a (k+ps.length)) W)
 |l,[],k,_,_,_,h=>by
  refine⟨λi h1 h2=>?_,λi R h1 h2=>?_,?_⟩
  .simp at h2;omega
  .simp at h2;omega
  .cases l<;>simpa[eu]using h
 |[],_::_,_,_,_,hlen,_=>by simp at hlen
 |o::l,p::ps,k,hl,hq,hlen,h=>by
  have h0:ops[k]? =some o:=by simpa using(hl 0).symm
  have hp:qs k=p:=by simpa using hq 0 p rfl
  have hb:(ops[k]?).bind (·.dst)=o.dst:=by rw[h0];rfl
  have rest:=λ(h':eu P K0 p0 ops w Q (k+1) l ps (facts ops qs vs (k+1)) (lay ops (fixed qs vs) a (k+1)))=>uP vs l ps (k+1) (λj=>by have:=hl (j+1);simpa[Nat.add_assoc,Nat.add_comm 1 j]using this)
   (λj q hj=>by have:=hq (j+1) q (by simpa using hj);simpa[Nat.add_assoc,Nat.add_comm 1 j]using this) (by simpa using hlen) h'
  have key:eu P K0 p0 ops w Q (k+1) l ps (facts ops qs vs (k+1)) (lay ops (fixed qs vs) a (k+1))/\
    (∀R,p= .inr R->uh K0 p0 k R)/\
    ∀W,K0 w W->(k=p0->Below w.heap.size w W)->near ops o (facts ops qs vs k) W->
     (if Region.wanted o (yielded ops (lay ops (fixed qs vs) a k).tmps)then dG P (oW K0 p0 k) o (lay ops (fixed qs vs) a k) W (dH p)else dH p undef W):=by
   cases p with
   |inl v=>
    obtain⟨h1,h2⟩:=h;have e:fixed qs vs k=v:=by unfold fixed;rw[hp]
    refine⟨by rw[facts,hp,lay,hb,e];exact h2,(λR hR=>by cases hR),λW hW hW2 hn=>?_⟩;split
    .rename_i hw;rw[if_pos hw]at h1;exact h1 W hW hW2 hn
    .rename_i hw;rw[if_neg hw]at h1;exact h1
   |inr R=>
    obtain⟨⟨h1,h3,h4⟩,h2⟩:=h;have e:fixed qs vs k=vs k:=by unfold fixed;rw[hp]
    refine⟨?_,(λR' hR=>by cases hR;exact h1),λW hW hW2 hn=>by rw[if_pos h3];exact h4 W hW hW2 hn⟩;have:=h2 (vs k);rw[facts,hp,lay,hb,e];cases hd:o.dst<;>simpa[hd]using this
  obtain⟨r1,r2,r3⟩:=rest key.1;have hl':k+(p::ps).length=k+1+ps.length:=by simp;omega
  refine⟨λi h1 h2=>?_,λi R h1 h2 hR=>?_,?_⟩
  .by_cases e:i=k
   .subst e;exact⟨o,h0,by rw[hp];exact key.2.2⟩
   .exact r1 i oM oM
  .by_cases e:i=k
   .subst e;exact key.2.1 R (by rw[<- hp,hR])
   .exact r2 i R oM oM hR
  .rw[hl'];simpa using r3
theorem aN(K0:World->World->Prop)(g:Goes K0)(p0:Nat){id:Nat}{l:List Oper}{Q:Exit->Act->World->Prop}{a:Act}{w:World}(ps:List Piece)(hm:P.follows .mixedOrders=true)(hB:nT l.toArray ps.length=true)
  (h:eu P K0 p0 l.toArray w Q 0 l ps [] a):(Code.region id l.toArray true).wp P Q a w:=by
 have hn:ps.length<=l.length:=by
  simp only[nT,Bool.and_eq_true,decide_eq_true_eq]at hB;simpa using hB.1.1.2
 have spec:=λvs=>uP (P:=P) (K0:=K0) (p0:=p0) (ops:=l.toArray) (w:=w) (Q:=Q) (a:=a) (qs:=λi=>(ps[i]?).getD (.inl undef)) vs l ps 0 (λj=>by simp) (λj p hj=>by simp[hj]) hn h;refine yU (K0:=K0) (p0:=p0) g ps.length (λi=>(ps[i]?).getD (.inl undef)) hm hB ?_ ?_ ?_
 .intro j R hj;by_cases hlt:j<ps.length
  .exact(spec (λ_=>undef)).2.1 j R oM oM hj
  .have:ps[j]? =none:=by simp;omega
   simp[this]at hj
 .intro vs i hi;unfold kX;obtain⟨o,ho,hs⟩:=(spec vs).1 i oM oM;rw[ho];intro W hW hW2 hd;have hs:=hs W hW hW2 (wZ hd);have looks:∀t∈o.looksAt l.toArray,(lay l.toArray (fixed (λi=>(ps[i]?).getD (.inl undef)) vs) a i).tmps[t]? =(lay l.toArray vs a i).tmps[t]?:=by
   intro t ht;rw[dM,dM];unfold dR;cases hc:eX l.toArray (λ_=>true) t i with
   |none=>rfl
   |some j=>
    obtain⟨c1,_,c3,_⟩:=bC hc;simp only;rw[kV (iR hd j t c1 c3 ht)]
  rw[gy looks]at hs;simp only;split
  .rename_i hw;rw[if_pos hw]at hs;refine hs.kE (iI (λcs b=>Region.noSelect_spec (by simp only[nT,Bool.and_eq_true]at hB;exact hB.1.1.1.1.1) i o cs b ho) (λt ht=>(looks t ht).symm))
  .rename_i hw;rw[if_neg hw]at hs;exact hs
 .intro vs W hW hall;have:=(spec vs).2.2 W hW (sK (by simpa using hall));have e:lay l.toArray (fixed (λi=>(ps[i]?).getD (.inl undef)) vs) a ps.length=lay l.toArray vs a ps.length:=oD (λt=>by
   rw[dM,dM];unfold dR;cases hc:eX l.toArray (λ_=>true) t ps.length with
   |none=>rfl
   |some j=>
    obtain⟨c1,_,_,_⟩:=bC hc;simp only;rw[kV (kH hall j c1)]) (by rw[eP,eP])
  rw[Nat.zero_add,e]at this;exact this
end
section
variable{P:Program}{ops:Array Oper}{w:World}{Q:Exit->Act->World->Prop}{o:Oper}{os:List Oper}{ps:List Piece}{G:List (Tmp×(World->Prop))}{a:Act}{K0:World->World->Prop}{p0 k:Nat}
theorem Gt{R:Value->World->Prop}{W:World}(hk:k≠p0)(h:Gives P o a W R):dG P (oW K0 p0 k) o a W R:=by
 unfold oW;rw[if_neg hk];exact h
theorem MG{R:Value->World->Prop}{W:World}(hk:k=p0)(h:dG P K0 o a W R):dG P (oW K0 p0 k) o a W R:=by
 unfold oW;rw[if_pos hk];exact h
theorem yj{v:Value}(hk:k≠p0)(hw:Region.wanted o (yielded ops a.tmps)=true)(h:∀W,K0 w W->near ops o G W->Gives P o a W (λu _=>u=v))
  (hr:eu P K0 p0 ops w Q (k+1) os ps G (a.put o.dst v)):eu P K0 p0 ops w Q k (o::os) (.inl v::ps) G a:=by
 unfold eu;rw[if_pos hw];exact⟨λW h1 _ h2=>Gt hk (h W h1 h2),hr⟩
theorem bZ{d:Tmp}{R:Value->World->Prop}(hk:k≠p0)(hd:o.dst=some d)(hst:∀v W W',R v W->Below W.heap.size W W'->R v W')(hst2:∀v W W',R v W->K0 W W'->R v W')(hw:Region.wanted o (yielded ops a.tmps)=true)
  (h:∀W,K0 w W->near ops o G W->Gives P o a W R) (hr:∀u,eu P K0 p0 ops w Q (k+1) os ps ((d,R u)::G) (a.put (some d) u)):eu P K0 p0 ops w Q k (o::os) (.inr R::ps) G a:=by
 unfold eu;refine⟨⟨⟨hst,λ_=>hst2⟩,hw,λW h1 _ h2=>Gt hk (h W h1 h2)⟩,λu=>?_⟩;simp only[hd];exact hr u
theorem aH{d:Tmp}{R:Value->World->Prop}(hk:k=p0)(hd:o.dst=some d)(hst:∀v W W',R v W->Below W.heap.size W W'->R v W')(hw:Region.wanted o (yielded ops a.tmps)=true)
  (h:∀W,Below w.heap.size w W->near ops o G W->dG P K0 o a W R) (hr:∀u,eu P K0 p0 ops w Q (k+1) os ps ((d,R u)::G) (a.put (some d) u)):eu P K0 p0 ops w Q k (o::os) (.inr R::ps) G a:=by
 unfold eu;refine⟨⟨⟨hst,λhn=>absurd hk hn⟩,hw,λW _ h0 h2=>MG hk (h W (h0 hk) h2)⟩,λu=>?_⟩;simp only[hd];exact hr u
theorem aU(h:∀W,K0 w W->every G W->wpList P ops Q os a W):eu P K0 p0 ops w Q k os [] G a:=by
 cases os<;>(unfold eu;exact h)
end
section
variable{P:Program}{K0:World->World->Prop}{p0:Nat}{ops:Array Oper}{w:World}{Q:Exit->Act->World->Prop}{k:Nat}{os:List Oper}{ps:List Piece}{G:List (Tmp×(World->Prop))}{o:Oper}{a a':Act}{v:Value}
theorem kG(h:∀W,K0 w W->near ops o G W->Gives P o a W (λu _=>u=v))(hr:eu P K0 p0 ops w Q (k+1) os ps G a')(hk:k≠p0:=by decide)(hw:Region.wanted o (yielded ops a.tmps)=true:=by rfl)(ha:a.put o.dst v=a':=by simp only[Act.put,pB,pC,pD];rfl):eu P K0 p0 ops w Q k (o::os) (.inl v::ps) G a:=yj hk hw h (by rw[ha];exact hr)
theorem kD(hr:eu P K0 p0 ops w Q (k+1) os ps G a')(h:∀W,K0 w W->near ops o G W->Gives P o a W (λu _=>u=v):=by intro W hE hN;go_simp;refine⟨Below.refl _ _,?_⟩;rfl)(hk:k≠p0:=by decide)(hw:Region.wanted o (yielded ops a.tmps)=true:=by rfl)(ha:a.put o.dst v=a':=by simp only[Act.put,pB,pC,pD];rfl):eu P K0 p0 ops w Q k (o::os) (.inl v::ps) G a:=yj hk hw h (by rw[ha];exact hr)
end
end Go.Dav
namespace Go.Proofs.YtenmnhnlcnmloaaGreat
open Go.RowKit Go.Dav
attribute [local go_sem] Gives ite_val ay
def Ry(F:aB)(w:World)(e:Ending)(w':World):Prop:=
 ∃n:Nat,e= .returned (.int .i64 n)/\(F.many<=524288->n=F.many)/\(524288<F.many->524288<n)/\n<=281474976710656/\Below w.heap.size w w'
def Jw(w:World)(F:aB)(fl:Nat)(cs:List Value)(ix n:Value)(wr:World):Prop:=
 ∃k m:Nat,k<=F.loose.length/\m=fl+sumTo F.loose k/\ix= .int .i64 k/\n= .int .i64 m/\m<=281474976710656/\wr=w.alloc (.cells cs.toArray 32)
theorem Pj(F:aB)(fa la:Option Addr)(fl fc ll lc:Nat)(w:World)(hF:lF w fa fl fc la ll lc F):
  Calls Tryz.prog 142 #[.agg #[.slice fa fl fc, .slice la ll lc, .int .i64 F.fuse, .int .i64 F.fault, .bool F.off]] w (Ry F w):=by
 have e1:=hF.loose.hlen;have e2:=hF.jH.hlen;have b1:=hF.loose.hfew;have b2:=hF.jH.hfew;have b3:(fl:Int)<=140737488355328:=oM;have HAT:=Hd hF;clear hF;have H1:=Hd e1;clear e1;have H2:=Hd e2;clear e2;go_enter Tryz.func142,Tryz.ntmps142;go_wp2_with fail;go_loopw [4,3] (λix n wr=>Jw w F fl [.slice fa fl fc, .slice la ll lc, .int .i64 F.fuse, .int .i64 F.fault, .bool F.off] ix n wr) (λix _ _=>ll-(intOf ix).toNat)
 case atStart=>exact⟨0,fl,Nat.zero_le _,by rw[oU];rfl,rfl,rfl,oM,rfl⟩
 case round=>
  obtain⟨k,m,hk,hm,rfl,rfl,hmm,rfl⟩:=hrel;have hmono:=mX F.loose k;have HM:=Hd hm;have HMO:=Hd hmono;have hk2:k<=ll:=by have:=H1.o;omega
  have hmi:(m:Int)<=281474976710656:=oM;clear hm hmono;by_cases hlt:k<F.loose.length
  .obtain⟨p,hp⟩:∃p,F.loose[k]? =some p:=⟨_,List.getElem?_eq_getElem hlt⟩;obtain⟨b,o,pa,pl,pc,rfl,hb,hc,hP⟩:=HAT.o.loose.hat k p hp;have hpl:=hP.hlen;have hpf:=hP.hfew;have hp2:(pl:Int)<=140737488355328:=oM;have HS:=Hd (sQ hp);have HP:=Hd hpl;have hkl:(k:Int)<(ll:Int):=by have:=H1.o;omega
   have HLT:=Hd hlt;clear hp hlt hP hpl hk;by_cases h5:(m:Int)<=524288
   .go_wp2;go_roundw
    case rel=>
     have:=HM.o;have:=HS.o;have:=HP.o;exact⟨k+1,m+pl,HLT.o,oM,by go_num,by go_num,oM,rfl⟩
    case measure=>simp[intOf];omega
   .have hval:¬F.many<=524288:=by
     have:=HM.o;have:=HMO.o;have:=H2.o;unfold aB.many;omega
    have HV:=Hd hval;clear hval;go_wp2;go_ret;exact⟨m,rfl,λh=>absurd h HV.o,λ_=>oM,hmm,bW⟩
  .have hkl:k=F.loose.length:=oM;have hk3:¬((k:Int)<(ll:Int)):=by have:=H1.o;omega
   have MC:F.many=m:=by
    have:=HM.o;have:=H2.o;unfold aB.many;rw[hkl,FH]at*;omega
   have HMA:=Hd MC;clear MC;clear hkl hk hlt;by_cases h5:(m:Int)<=524288
   .go_wp2;go_ret;exact⟨m,rfl,λ_=>HMA.o.symm,λh=>by have:=HMA.o;omega,hmm,bW⟩
   .go_wp2;go_ret;exact⟨m,rfl,λ_=>HMA.o.symm,λh=>by have:=HMA.o;omega,hmm,bW⟩
theorem aB.zX{F:aB}(h:F.right=true):F.len=F.many:=by
 have:=aB.cZ.1 h;unfold aB.len;rw[if_pos ⟨this.1,this.2.2.2.2⟩]
theorem Rz(F:aB)(fa la:Option Addr)(fl fc ll lc:Nat)(w:World)(hF:lF w fa fl fc la ll lc F):
  Calls Tryz.prog 147 #[.agg #[.slice fa fl fc, .slice la ll lc, .int .i64 F.fuse, .int .i64 F.fault, .bool F.off]] w λe w'=>e= .returned (.int .i64 (if F.right=true then(F.many:Int)else 0))/\Below w.heap.size w w':=by
 have hF':=hF.ext ((Below.refl _ w).alloc (Nat.le_refl _) (.cells #[.slice fa fl fc, .slice la ll lc, .int .i64 F.fuse, .int .i64 F.fault, .bool F.off] 32));have HAT:=Hd hF';clear hF' hF;have hb:Below w.heap.size w (w.alloc (.cells #[.slice fa fl fc, .slice la ll lc, .int .i64 F.fuse, .int .i64 F.fault, .bool F.off] 32)):=(Below.refl _ w).alloc (Nat.le_refl _) _;cases hr:F.right with
 |true=>
  have herr:F.err=0:=by unfold aB.err;rw[if_pos hr]
  have HL:=Hd (aB.zX hr);go_enter Tryz.func147,Tryz.ntmps147;go_wp2_with fail;refine(kP F fa la fl fc ll lc _ HAT.o).mono ?_;rintro e w1 ⟨rfl,hb1⟩;obtain⟨hc1,hf1,hs1⟩:=after hb1;simp only[World.size_alloc]at hs1;rw[herr];go_wp2_with fail;refine(nI F fa la fl fc ll lc _ (HAT.o.ext hb1)).mono ?_;rintro e w2 ⟨rfl,hb2⟩;go_wp2;go_ret;exact⟨iK HL.o,(by have hz:=hb2;have hy:=hb1;exact bY)⟩
 |false=>
  have herr:F.err=200:=by unfold aB.err;rw[if_neg (by rw[hr];decide)]
  go_enter Tryz.func147,Tryz.ntmps147;go_wp2_with fail;refine(kP F fa la fl fc ll lc _ HAT.o).mono ?_;rintro e w1 ⟨rfl,hb1⟩;rw[herr];go_wp2;go_ret;exact⟨rfl,(by have hz:=hb1;exact bV)⟩
theorem aO{P:Program}{W:World}{a:Option Addr}{len cap:Nat}{l:List UInt8}(h:BytesAt W a len cap l)(src dst e:TypeId)(hs:P.underlying src=some (.slice e))(he:P.underlying e=some (.int .u8))(hd:P.underlying dst=some .string):
  (convert src dst (.slice a len cap)).run P W= .ok (.string ⟨l.toArray⟩) W:=by
 obtain⟨h1,h2,h3,h4,h5,h6⟩:=h;subst h1;cases a with
 |none=>
  have h0:=h6 rfl;have hl:l=[]:=List.length_eq_zero_iff.1 oM;subst hl;exact Lib.run_convert_nil_bytes W src dst e cap hs he hd
 |some a=>
  cases l with
  |nil=>
   refine run_convert_bytes_back W src dst e a cap [] hs he hd ?_;intro j hj;simp at hj
  |cons c l=>
   obtain⟨b,o,e0,_,_⟩:=h5 0 c rfl;cases e0;refine run_convert_bytes_back W src dst e _ cap (c::l) hs he hd ?_;intro j hj;obtain⟨b',o',e1,_,hc⟩:=h5 j _ (List.getElem?_eq_getElem hj);cases e1;rw[Addr.add_mid];exact hc
theorem gQ(x y:List UInt8):(x==y)=decide (x=y):=by
 rw[Bool.eq_iff_iff];simp
theorem fE(a b:Option Addr)(al ac bl bc:Nat)(x y:List UInt8)(w:World)(hx:BytesAt w a al ac x)(hy:BytesAt w b bl bc y):
  Calls Tryz.prog 34 #[.slice a al ac, .slice b bl bc] w λe w'=>e= .returned (.bool (decide (x=y)))/\Below w.heap.size w w':=by
 have k1:=aO hx 22 9 5 Tryz.underlying22 Tryz.underlying5 Tryz.underlying9;have k2:=aO hy 22 9 5 Tryz.underlying22 Tryz.underlying5 Tryz.underlying9;clear hx hy;go_enter Tryz.func34,Tryz.ntmps34;go_wp2;go_ret;exact⟨bg (gQ x y),bW⟩
theorem zY:(Tryz.prog.info? 5).map (λi=>(i.zero,i.size,i.bytes))=some (some (.int .u8 0),1,1):=kR
theorem aF:BQ Tryz.prog 22 5 1:=by
 obtain⟨i0,hi,hz0,hz1,hz2⟩:=info_parts zY;exact⟨Tryz.underlying22,i0,_,hi,hz0,hz1,hz2,rfl⟩
theorem BZ:(Tryz.prog.info? 22).map (λi=>(i.zero,i.size,i.bytes))=some (some (.slice none 0 0),1,24):=kR
theorem uj:BQ Tryz.prog 30 22 24:=by
 obtain⟨i0,hi,hz0,hz1,hz2⟩:=info_parts BZ;exact⟨Tryz.underlying30,i0,_,hi,hz0,hz1,hz2,rfl⟩
theorem sZ(w:World)(a:Option Addr)(n c:Nat):(binOp .eql 22 (.slice a n c) (.slice none 0 0)).run Tryz.prog w= .ok (.bool a.isNone) w:=Lib.run_eql_slice_nil w _ _ a n c 0 0 Tryz.underlying22
def oZ(w:World)(x:List UInt8)(e:Ending)(w':World):Prop:=
 ∃a n c,e= .returned (.slice a n c)/\au w' (λb=>w.heap.size<=b) a n c x/\Below w.heap.size w w'
def KR(t:TypeId)(w:World)(x:List UInt8)(e:Ending)(w':World):Prop:=
 ∃v,e= .returned v/\w'.ownsRow w.heap.size t 1 v x.length (u8s x)/\Below w.heap.size w w'
theorem fM{w:World}{base e n:Nat}{v:Value}{l:List UInt8}(h:w.ownsRow base e 1 v n (u8s l))(hn:n<=140737488355328):∃a c,v= .slice a n c/\au w (λb=>base<=b) a n c l:=by
 obtain⟨a,cap,h1,h2,h3,h4,h5⟩:=bf h;exact⟨a,cap,h1,au.of_cells h5 h2 h3 hn h4⟩
theorem MH(a:Option Addr)(al ac:Nat)(x:List UInt8)(S:Nat->Prop)(w:World)(hx:au w S a al ac x):
  Calls Tryz.prog 48 #[.slice a al ac] w (oZ w x):=by
 cases a with
 |none=>
  have h0:=hx.at_.hnil rfl;have h1:=hx.at_.hcap;obtain rfl:al=0:=oM;subst h0;have hx0:x=[]:=List.length_eq_zero_iff.1 hx.at_.hlen;subst hx0;clear hx h1;have Ye:=@sZ;go_enter Tryz.func48,Tryz.ntmps48;go_wp2;go_ret;exact⟨none,0,0,rfl,au.nil_,bW⟩
 |some ad=>
  have hc:=(hx.cells.ext ((Below.refl _ w).alloc (Nat.le_refl _) (.cells #[] 5)));have hf:=hx.at_.hfew;have HX:=Hd hc;clear hx hc;have Ye:=@sZ;go_enter Tryz.func48,Tryz.ntmps48;have hown:=World.ownsRow_made (e:=5) (size:=1) w #[] 0 (Nat.le_refl _) (by unfold maxLen;omega) rfl;go_wp2_with (at_builtin;refine ak rfl (.tmp 5) (.tmp 6) 22 rfl aF w.heap.size _ 0 [] rfl hown S (some ad) al ac (u8s x) rfl HX.o (iy x) (λh=>by cases h) (by unfold maxLen;omega) oM (by simp) ?_;intro v' w1 hown1 hgrow)
  rw[Nat.zero_add,List.nil_append]at hown1;obtain⟨a',c',rfl,hB⟩:=fM hown1 hf;have hbel:Below w.heap.size w w1:=((Below.refl _ w).alloc (Nat.le_refl _) _).grown hgrow (by simp) (λk hk=>(hown.lt k hk).1);clear hown1 hgrow;go_wp2;go_ret;exact⟨a',al,c',rfl,hB,hbel⟩
def mD(F:aB)(k:Nat):List UInt8:=F.jH++(F.loose.take k).flatten
theorem Dj{F:aB}{k:Nat}{p:List UInt8}(h:F.loose[k]? =some p):mD F (k+1)=mD F k++p:=by
 unfold mD;rw[List.take_add_one,h];simp
theorem Gu(F:aB)(k:Nat):(mD F k).length=F.jH.length+sumTo F.loose k:=by
 unfold mD sumTo;simp[List.length_flatten]
theorem vP(F:aB)(k:Nat):(mD F k).length<=F.many:=by
 rw[Gu];have:=mX F.loose k;unfold aB.many;omega
theorem Gv(F:aB):mD F F.loose.length=F.all:=by unfold mD aB.all;rw[List.take_length]
def Dk(w:World)(F:aB)(cs:List Value)(ix v:Value)(wr:World):Prop:=
 ∃k:Nat,k<=F.loose.length/\ix= .int .i64 k/\wr.ownsRow (w.heap.size+1) 5 1 v (mD F k).length (u8s (mD F k))/\Below (w.heap.size+1) (w.alloc (.cells cs.toArray 32)) wr
theorem Jy(F:aB)(fa la:Option Addr)(fl fc ll lc:Nat)(w:World)(hF:lF w fa fl fc la ll lc F)(hm:F.many<=140737488355328):
  Calls Tryz.prog 81 #[.agg #[.slice fa fl fc, .slice la ll lc, .int .i64 F.fuse, .int .i64 F.fault, .bool F.off]] w (KR 5 w F.all):=by
 have e1:=hF.loose.hlen;have e2:=hF.jH.hlen;have b1:=hF.loose.hfew;have hW:Below w.heap.size w (w.alloc (.cells [.slice fa fl fc, .slice la ll lc, .int .i64 F.fuse, .int .i64 F.fault, .bool F.off].toArray 32)):=bW;have HF:=Hd (hF.ext hW);have hfn:=hF.jH.hnil;have HC:=Hd (hF.ext hW).jH.s.cells;have H1:=Hd e1;have H2:=Hd e2;have HN:=Hd hfn;have h0:(mD F 0).length=fl:=by rw[Gu,oU,e2];rfl
 have h00:=vP F 0;have HM:=Hd hm;have hfl:fl<=140737488355328:=oM;have H00:=Hd h0;clear hF hfn e1 e2 hm h0 h00;go_enter Tryz.func81,Tryz.ntmps81;go_wp2_with (at_builtin;refine ak rfl (.tmp 5) (.tmp 7) 22 rfl aF (w.heap.size+1) _ 0 [] rfl (World.ownsRow_nil _ _ _ _) (λb=>b<(w.alloc (.cells [.slice fa fl fc, .slice la ll lc, .int .i64 F.fuse, .int .i64 F.fault, .bool F.off].toArray 32)).heap.size) fa fl fc (u8s F.jH) rfl HC.o (iy _) HN.o (by unfold maxLen;omega) oM (by simp) ?_;intro v1 w1 hown1 hgrow1)
 have xu:Below (w.heap.size+1) (w.alloc (.cells [.slice fa fl fc, .slice la ll lc, .int .i64 F.fuse, .int .i64 F.fault, .bool F.off].toArray 32)) w1:=(Below.refl _ _).grown hgrow1 (by simp) (λk hk=>by cases hk);rw[Nat.zero_add,List.nil_append]at hown1;go_wp2_with fail;go_loopw [4,3] (λix v wr=>Dk w F [.slice fa fl fc, .slice la ll lc, .int .i64 F.fuse, .int .i64 F.fault, .bool F.off] ix v wr) (λix _ _=>ll-(intOf ix).toNat)
 case atStart=>
  refine⟨0,Nat.zero_le _,rfl,?_,xu⟩;rw[H00.o];have e:mD F 0=F.jH:=by simp[mD]
  rw[e];exact hown1
 case round=>
  obtain⟨k,hk,rfl,hown,hbel⟩:=hrel;have hk2:k<=ll:=by have:=H1.o;omega
  have hbs:=hbel.size;simp only[World.size_alloc]at hbs;have HAL:=Hd (vP F k);have HOW:=Hd hown;have hB:=(Blk.new w [_,_,_,_,_] 32).below hbel (Nat.lt_succ_self _);have c1:=hB.cells;have l1:=hB.lt;clear hown hown1 hgrow1;by_cases hlt:k<F.loose.length
  .obtain⟨p,hp⟩:∃p,F.loose[k]? =some p:=⟨_,List.getElem?_eq_getElem hlt⟩;have hF2:=HF.o.ext (hbel.mono (by simp));obtain⟨b,o,pa,pl,pc,rfl,hb,hc,hP⟩:=hF2.loose.hat k p hp;have hpl:=hP.hlen;have hnil:=hP.hnil;have hpc:=hP.s.cells;have HS:=Hd (Dj hp);have Wn:=Hd (vP F (k+1));have hkl:(k:Int)<(ll:Int):=by have:=H1.o;omega
   have HLT:=Hd hlt;have HP:=Hd hpl;have HPC:=Hd hpc;have HPN:=Hd hnil;have hlen:(mD F (k+1)).length=(mD F k).length+pl:=by rw[HS.o,List.length_append,HP.o]
   have HLE:=Hd hlen;clear hp hlt hP hpl hk hF2 hpc hnil hlen;go_wp2_with (at_builtin;refine ak rfl (.tmp 16) (.tmp 21) 22 rfl aF (w.heap.size+1) _ (mD F k).length (u8s (mD F k)) rfl HOW.o (λb=>b<wr.heap.size) pa pl pc (u8s p) rfl HPC.o (iy _) HPN.o (by have:=HM.o;have:=Wn.o;have:=HLE.o;unfold maxLen;omega) (by have:=HM.o;have:=Wn.o;have:=HLE.o;omega) oM ?_;intro v1 w1 hown1 hgrow1)
   have xu:Below (w.heap.size+1) (w.alloc (.cells #[.slice fa fl fc, .slice (some ⟨b,o,none⟩) ll lc, .int .i64 F.fuse, .int .i64 F.fault, .bool F.off] 32)) w1:=hbel.grown hgrow1 oM (λk hk=>(HOW.o.lt k hk).1);rw[<- aW,<- HS.o,<- HLE.o]at hown1;go_roundw
   case rel=>exact⟨k+1,HLT.o,by go_num,hown1,xu⟩
   case measure=>simp[intOf];omega
  .have hkl:k=F.loose.length:=oM;have hk3:¬((k:Int)<(ll:Int)):=by have:=H1.o;omega
   have hall:mD F k=F.all:=by rw[hkl,Gv]
   have hown:=HOW.o;rw[hall]at hown;have hown2:=hown.mono (base':=w.heap.size) oM;clear hkl hk hlt hown hall;go_wp2;go_ret;exact⟨_,rfl,hown2,((Below.refl _ w).alloc (Nat.le_refl _) _).trans (hbel.mono oM)⟩
theorem KW(F:aB)(fa la:Option Addr)(fl fc ll lc:Nat)(w:World)(hF:lF w fa fl fc la ll lc F)(hm:F.many<=140737488355328):
  Calls Tryz.prog 81 #[.agg #[.slice fa fl fc, .slice la ll lc, .int .i64 F.fuse, .int .i64 F.fault, .bool F.off]] w (oZ w F.all):=
 (Jy F fa la fl fc ll lc w hF hm).mono λe w' ⟨v,he,ho,hb⟩=>by
  obtain⟨a',c',rfl,hB'⟩:=fM ho (by rw[F.gu];omega);exact⟨a',_,c',he,hB',hb⟩
end Go.Proofs.YtenmnhnlcnmloaaGreat

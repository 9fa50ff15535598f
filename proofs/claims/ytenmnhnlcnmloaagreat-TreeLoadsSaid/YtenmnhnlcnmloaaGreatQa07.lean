/- Part of a proof of a law of the layer of trees. -/
import Derived.Test.YtenmnhnlcnmloaaGreatQa02
import Derived.Test.YtenmnhnlcnmloaaGreatQa04
import Derived.Test.YtenmnhnlcnmloaaGreatQa06
import Derived.Test.YtenmnhnlcnmloaaGreatQa05
import Derived.Laws.EntriesVeiled
import Derived.LoopN
import Derived.Test.YtenmnhnlcnmloaaGreatQa01
set_option linter.unusedVariables false
set_option linter.unusedSimpArgs false
set_option maxHeartbeats 8000000
set_option maxRecDepth 8000
namespace Go.Dav
open Go Go.RowKit
section
variable{P:Program}{ops:Array Oper}
def xY(o:Oper):Bool:=o.guard.isNone&&match o.op with
 | .extract _ _=>true
 | .move _=>true
 |_=>false
def V6(ops:Array Oper)(n:Nat)(F:List Nat):Bool:=
 F.all λi=>decide (i<n)&&match ops[i]? with
  |none=>false
  |some oi=>xY oi&&(List.range ops.size).all λj=>j==i||(decide (j<n)&& !F.contains j)||match ops[j]? with
   |some oj=>oj.after.any (λe=>Region.binds .any e&&e.on==i)||oi.apart ops oj
   |none=>true
def TQ(ops:Array Oper)(n:Nat)(F:List Nat):Bool:=
 (List.range n).all λi=>F.contains i||(List.range (n+1)).any λj=>decide (i<j)&& !F.contains j&&Region.waitsFor .any ops j i
def gW(ops:Array Oper)(n:Nat)(F:List Nat):Bool:=
 Region.noSelect ops&&yO ops n&&Rq ops n&&decide (n<ops.size)&&(TQ ops n F&&Region.chainB .any ops n)&&V6 ops n F&&
  Region.seqB .any ops (ops.size-n) n ((Array.range ops.size).map λj=>decide (j<n))&& !F.contains n
theorem zN{n:Nat}{F:List Nat}{listed:Array Bool}(hs:TQ ops n F=true)(hc:Region.chainB .any ops n=true)(hn:n<ops.size)(hF:F.contains n=false)(inv:HeadInv .any ops n listed):
  ∀(d i:Nat),n-i=d->i<n->F.contains i=false->listed.getD i true=false->∀t,n<=t->t∉Region.ready .any ops listed:=by
 intro d;induction d using Nat.strongRecOn with
 |_ d ih=>
  intro i hd hi hfi hun t ht hr;obtain⟨_,ot,hot,hall⟩:=mem_ready.1 hr;have htlt:t<ops.size:=(Array.getElem?_eq_some_iff.1 hot).1;by_cases htn:t=n
  .subst htn;have h1:=List.all_eq_true.1 hs i (List.mem_range.2 hi);rw[hfi,Bool.false_or]at h1;obtain⟨j,hj,hj2⟩:=List.any_eq_true.1 h1;simp only[Bool.and_eq_true,decide_eq_true_eq,Bool.not_eq_true']at hj2;obtain⟨oj,hoj,e,he,hb,hon⟩:=Region.waitsFor_spec hj2.2;have hjle:j<=t:=by have:=List.mem_range.1 hj;omega
   by_cases hjt:j=t
   .subst hjt;have:oj=ot:=Option.some.inj (hoj.symm.trans hot);subst this;have h2:=hall e he hb;rw[hon,getD_both hun]at h2;cases h2
   .cases hl:listed.getD j false with
    |true=>
     have h2:=inv.closed j oj hoj hl e he hb;rw[hon,getD_both hun]at h2;cases h2
    |false=>
     have hjs:j<listed.size:=by rw[inv.size];omega
     exact ih (t-j) oM j rfl oM hj2.1.2 (getD_in hjs hl) t (Nat.le_refl _) hr
  .have h1:=List.all_eq_true.1 hc t (List.mem_range.2 htlt);simp only[Bool.or_eq_true,decide_eq_true_eq]at h1;rcases h1 with h1|h1
   .omega
   .obtain⟨o',ho',e,he,hb,hon⟩:=Region.waitsFor_spec h1;have:o'=ot:=Option.some.inj (ho'.symm.trans hot);subst this;have h2:=hall e he hb;rw[hon,getD_both (inv.tail (t-1) oM oM)]at h2;cases h2
theorem F8{o:Oper}{a:Act}{W:World}{R:Value->World->Prop}(hp:xY o=true)(h:Gives P o a W R):
  ∃v,Yields P ops o v a/\R v W:=by
 unfold xY at hp;simp only[Bool.and_eq_true,Option.isNone_iff_eq_none]at hp;have hw:Region.wanted o (yielded ops a.tmps)=true:=by unfold Region.wanted;rw[hp.1]
 have hop:=hp.2;cases he:o.op with
 |move x=>
  have hr:∀w,(execOp a.eval o).run P w= .ok (.value (a.eval x)) w:=λw=>by
   simp only[execOp,he];rfl
  unfold Gives at h;rw[hr]at h;exact⟨_, .inl ⟨hw,hr⟩,h.2⟩
 |extract x k=>
  unfold Gives at h;cases hx:a.eval x with
  |tuple vs=>
   cases hk:vs[k]? with
   |some v=>
    have hr:∀w,(execOp a.eval o).run P w= .ok (.value v) w:=λw=>by
     simp only[execOp,he,hx];simp[Instr.extract,hk,go_sem]
    rw[hr]at h;exact⟨_, .inl ⟨hw,hr⟩,h.2⟩
   |none=>
    exfalso;simp only[execOp,he,hx]at h;simp[Instr.extract,hk,go_sem]at h
  |_=>
   exfalso;simp only[execOp,he,hx]at h;simp[Instr.extract,go_sem]at h
 |_=>rw[he]at hop;cases hop
theorem OZ{n:Nat}{ps:Nat->Value ⊕ (Value->World->Prop)}{a0:Act}{w0:World}{listed:Array Bool}{vs:Nat->Value}{a:Act}{W:World}
  (hB:yO ops n=true) (hsel:Region.noSelect ops=true)
  (hop:∀vs i,i<n->lZ P ops ps a0 w0 vs i) (inv:HeadInv .any ops n listed) (mid:Mid ops n ps a0 w0 listed vs a W)
  {i:Nat} {oi:Oper} (hr:i∈Region.ready .any ops listed) (hin:i<n) (hoi:ops[i]? =some oi) (hg:oi.guard=none):Gives P oi a W (dH (ps i)):=by
 obtain⟨hun,oi',hoi',hall⟩:=mem_ready.1 hr;obtain rfl:oi'=oi:=Option.some.inj (hoi'.symm.trans hoi);have yP:listed.getD i false=false:=getD_both hun;have later:∀j oj d,j<n->ops[j]? =some oj->oj.dst=some d->listed.getD j false=true->(d∈oi'.looksAt ops\/oi'.dst=some d)->j<i:=by
  intro j oj d hj hoj hd hl hlook;have hji:i≠j:=λe=>by subst e;rw[yP]at hl;cases hl
  obtain⟨_,h1,_⟩:=iG hB hin hj hoi hoj hd (hlook.imp id λh=>⟨h,hji⟩);rcases Nat.lt_trichotomy i j with h|h|h
  .obtain⟨oj',LX,e,he,hb,hon⟩:=Region.waitsFor_spec (h1 h);have:=inv.closed j oj' LX hl e he hb;rw[hon,yP]at this;cases this
  .exact absurd h hji
  .exact h
 have early:∀j oj d,j<i->ops[j]? =some oj->oj.dst=some d->(d∈oi'.looksAt ops)->listed.getD j false=true:=by
  intro j oj d hj hoj hd hlook;obtain⟨_,_,h2⟩:=iG hB hin oM hoi hoj hd (.inl hlook);obtain⟨oi2,Yd,e,he,hb,hon⟩:=Region.waitsFor_spec (h2 hj);have:oi2=oi':=Option.some.inj (Yd.symm.trans hoi);subst this;have:=hall e he hb;rwa [hon]at this
 have looks:∀t∈oi'.looksAt ops,(lay ops vs a0 i).tmps[t]? =a.tmps[t]?:=by
  intro t ht;rw[dM,mid.slots t];unfold dR;rw[iw (ops:=ops) (t:=t) (p:=λ_=>true) (q:=λj=>listed.getD j false) (m:=i) (n:=n) ?_];intro j;constructor
  .rintro⟨h1,_,h3⟩;obtain⟨oj,hoj,hd⟩:=Option.bind_eq_some_iff.1 h3;exact⟨oM,early j oj t h1 hoj hd ht,h3⟩
  .rintro⟨h1,h2,h3⟩;obtain⟨oj,hoj,hd⟩:=Option.bind_eq_some_iff.1 h3;exact⟨later j oj t h1 hoj hd h2 (.inl ht),rfl,h3⟩
 have Jm:kU ops ps vs oi' W i:=ny i λj d hj hd hl=>by
  obtain⟨oj,hoj,hd'⟩:=Option.bind_eq_some_iff.1 hd;exact mid.held j oM (early j oj d hj hoj hd' hl)
 have hs:=hop vs i hin;unfold lZ at hs;simp only[hoi]at hs;have hs:=hs W mid.ext Jm;have hw:Region.wanted oi' (yielded ops (lay ops vs a0 i).tmps)=true:=by unfold Region.wanted;rw[hg]
 rw[if_pos hw]at hs;exact hs.kE (iI (λcs b=>Region.noSelect_spec hsel i oi' cs b hoi) (λt ht=>(looks t ht).symm))
theorem UC{n:Nat}{ps:Nat->Value ⊕ (Value->World->Prop)}{a0:Act}{w0:World}{listed:Array Bool}{vs:Nat->Value}{a:Act}{W:World}
  (hB:yO ops n=true) (hst:∀j R,ps j= .inr R->∀v W W',R v W->Below W.heap.size W W'->R v W')
  (inv:HeadInv .any ops n listed) (mid:Mid ops n ps a0 w0 listed vs a W)
  {i:Nat} {oi:Oper} (hr:i∈Region.ready .any ops listed) (hin:i<n) (hoi:ops[i]? =some oi) {v:Value} {W':World} (hb:Below W.heap.size W W') (hv:dH (ps i) v W'):
  Mid ops n ps a0 w0 (listed.setIfInBounds i true) (λj=>if j=i then v else vs j) (a.put oi.dst v) W':=by
 obtain⟨hun,oi',hoi',hall⟩:=mem_ready.1 hr;obtain rfl:oi'=oi:=Option.some.inj (hoi'.symm.trans hoi);have yP:listed.getD i false=false:=getD_both hun;have hisz:i<listed.size:=by rw[inv.size];exact(Array.getElem?_eq_some_iff.1 hoi).1
 have later:∀j oj d,j<n->ops[j]? =some oj->oj.dst=some d->listed.getD j false=true->(d∈oi'.looksAt ops\/oi'.dst=some d)->j<i:=by
  intro j oj d hj hoj hd hl hlook;have hji:i≠j:=λe=>by subst e;rw[yP]at hl;cases hl
  obtain⟨_,h1,_⟩:=iG hB hin hj hoi hoj hd (hlook.imp id λh=>⟨h,hji⟩);rcases Nat.lt_trichotomy i j with h|h|h
  .obtain⟨oj',LX,e,he,hb,hon⟩:=Region.waitsFor_spec (h1 h);have:=inv.closed j oj' LX hl e he hb;rw[hon,yP]at this;cases this
  .exact absurd h hji
  .exact h
 refine⟨oP mid.ext hb,by rw[sJ,mid.size],by rw[put_defers,mid.defers],λt=>?_,λj hj hl=>?_⟩
 .rw[wX,mid.size];unfold dR;by_cases hd:oi'.dst=some t
  .simp only[hd,if_true];have:eX ops (λj=>(listed.setIfInBounds i true).getD j false) t n=some i:=by
    cases hc:eX ops (λj=>(listed.setIfInBounds i true).getD j false) t n with
    |none=>exact absurd ⟨by simp[hisz],by simp[hoi,hd]⟩ (jL hc i hin)
    |some j=>
     obtain⟨c1,c2,c3,c4⟩:=bC hc;obtain⟨oj,hoj,hdj⟩:=Option.bind_eq_some_iff.1 c3;by_cases e:j=i
     .rw[e]
     .have hlj:listed.getD j false=true:=by rwa [getD_set_ne false (Ne.symm e)]at c2
      have:=later j oj t c1 hoj hdj hlj (.inr hd);exact absurd ⟨by simp[hisz],by simp[hoi,hd]⟩ (c4 i this hin)
   rw[this];simp
  .simp only[hd,if_false];rw[mid.slots t];unfold dR;have:eX ops (λj=>(listed.setIfInBounds i true).getD j false) t n=eX ops (λj=>listed.getD j false) t n:=by
    refine iw λj=>?_;by_cases e:j=i
    .subst e;simp[hoi,hd]
    .rw[getD_set_ne false (Ne.symm e)]
   rw[this];cases hc:eX ops (λj=>listed.getD j false) t n with
   |none=>rfl
   |some j=>
    obtain⟨c1,c2,c3,c4⟩:=bC hc;have e:j≠i:=λe=>by subst e;simp[hoi,hd]at c3
    simp[e]
 .by_cases e:j=i
  .subst e;simpa using hv
  .simp only[e,if_false];have hl':listed.getD j false=true:=by rwa [getD_set_ne false (Ne.symm e)]at hl
   have h1:=mid.held j hj hl';cases hp:ps j with
   |inl u=>simpa[hp,dH]using h1
   |inr R=>simp only[hp,dH]at h1⊢;exact hst j R hp _ _ _ h1 hb
theorem free_spec{n:Nat}{F:List Nat}(h:V6 ops n F=true){i:Nat}(hi:F.contains i=true):
  i<n/\∃oi,ops[i]? =some oi/\xY oi=true/\∀j oj,ops[j]? =some oj->j≠i->¬(j<n/\F.contains j=false)->(∀e∈oj.after,Region.binds .any e=true->e.on≠i)->oi.apart ops oj=true:=by
 have h1:=List.all_eq_true.1 h i (by simpa using hi);simp only[Bool.and_eq_true,decide_eq_true_eq]at h1;obtain⟨h1,h2⟩:=h1;refine⟨h1,?_⟩;cases ho:ops[i]? with
 |none=>simp[ho]at h2
 |some oi=>
  simp only[ho,Bool.and_eq_true]at h2;refine⟨oi,rfl,h2.1,λj oj hj hji hnf hno=>?_⟩;have h3:=List.all_eq_true.1 h2.2 j (List.mem_range.2 (Array.getElem?_eq_some_iff.1 hj).1);simp only[hj,Bool.or_eq_true,Bool.and_eq_true,beq_iff_eq,decide_eq_true_eq,Bool.not_eq_true']at h3;rcases h3 with(h3|h3)|h3|h3
  .exact absurd h3 hji
  .exact absurd h3 hnf
  .obtain⟨e,he,hb⟩:=Array.any_eq_true'.1 h3;simp only[Bool.and_eq_true,beq_iff_eq]at hb;exact absurd hb.2 (hno e he hb.1)
  .exact h3
theorem vH{n:Nat}{F:List Nat}{ps:Nat->Value ⊕ (Value->World->Prop)}{a0:Act}{w0:World}{Q:Exit->Act->World->Prop}{l:List Oper}
  (hl:∀j:Nat,l[j]? =ops[n+j]?) (hll:l.length=ops.size-n)
  (hB:gW ops n F=true) (hst:∀j R,ps j= .inr R->∀v W W',R v W->Below W.heap.size W W'->R v W')
  (hQ:∀c a d v w,Q (.panic c) (Act.put a d v) w->Q (.panic c) a w)
  (hop:∀vs i,i<n->lZ P ops ps a0 w0 vs i)
  (hend:∀vs W,Below w0.heap.size w0 W->kF ps vs W n->wpList P ops Q l (lay ops vs a0 n) W):
  ∀(f:Nat) (listed:Array Bool) (vs:Nat->Value) (a:Act) (W:World),HeadInv .any ops n listed->Mid ops n ps a0 w0 listed vs a W->cnt listed n=f->
   wpAny P .any ops Q (f+(ops.size-n)) listed a W:=by
 simp only[gW,Bool.and_eq_true,decide_eq_true_eq,Bool.not_eq_true']at hB;obtain⟨⟨⟨⟨⟨⟨⟨hsel,wY⟩,hback⟩,hn⟩,UD,hchain⟩,hfree⟩,hseq⟩,hFn⟩:=hB;intro f;induction f with
 |zero=>
  intro listed vs a W inv mid hc;have hall:=qh listed n hc;have uD:listed=(Array.range ops.size).map λj=>decide (j<n):=by
   apply Array.ext
   .simp[inv.size]
   .intro j h1 h2;simp only[Array.getElem_map,Array.getElem_range];by_cases hj:j<n
    .have:=hall j hj;simp only[h1,Array.getD_eq_getD_getElem?,Array.getElem?_eq_getElem,Option.getD_some]at this;simp[hj,this]
    .have:=getD_both (inv.tail j oM (by simpa using h2));simp only[h1,Array.getD_eq_getD_getElem?,Array.getElem?_eq_getElem,Option.getD_some]at this;simp[hj,this]
  have ha:a=lay ops vs a0 n:=oD (λt=>by
   rw[dM,mid.slots t];unfold dR;rw[iw (ops:=ops) (t:=t) (p:=λj=>listed.getD j false) (q:=λ_=>true) (m:=n) (n:=n) ?_];intro j;constructor
   .rintro⟨h1,_,h3⟩;exact⟨h1,rfl,h3⟩
   .rintro⟨h1,_,h3⟩;exact⟨h1,hall j h1,h3⟩) (by rw[mid.defers,eP])
  have h:=hend vs W mid.ext (oQ n λj hj=>mid.held j hj (hall j hj));rw[Nat.zero_add,<- hll];rw[<- uD,<- hll]at hseq;rw[ha];exact wpAny_of_seq l n listed _ W hl hseq h
 |succ f ih=>
  intro listed vs a W inv mid hc;obtain⟨i0,hi0,hu0,hlow⟩:=iJ listed n oM;rw[show f+1+(ops.size-n)=(f+(ops.size-n))+1 by omega];have hr0:i0∈Region.ready .any ops listed:=by
   have h1:=List.all_eq_true.1 hback i0 (List.mem_range.2 hi0);cases ho:ops[i0]? with
   |none=>simp[ho]at h1
   |some o=>
    simp only[ho]at h1;refine mem_ready.2 ⟨getD_in (by rw[inv.size];omega) hu0,o,ho,λe he hb=>?_⟩;have h2:=Array.all_eq_true'.1 h1 e he;simp only[hb,Bool.not_true,Bool.false_or,decide_eq_true_eq]at h2;exact hlow e.on h2
  by_cases hex:∃i1,i1<n/\F.contains i1=false/\listed.getD i1 false=false
  .obtain⟨i1,hi1,hf1,hu1⟩:=hex;refine⟨λh=>(by rw[h]at hr0;cases hr0),λi hi=>?_⟩;have hin:i<n:=by
    rcases Nat.lt_or_ge i n with h|h
    .exact h
    .exact absurd hi (zN UD hchain hn hFn inv _ i1 rfl hi1 hf1 (getD_in (by rw[inv.size];omega) hu1) i h)
   have hun:=(mem_ready.1 hi).1;refine mid_step wY hsel hst hop inv mid hi hin λvs' a' W' Rt mid'=>ih _ vs' a' W' Rt mid' ?_;have:=ru listed i (by rw[inv.size];omega) (getD_both hun) n hin;omega
  .have hF0:F.contains i0=true:=by
    cases h:F.contains i0 with
    |true=>rfl
    |false=>exact absurd ⟨i0,hi0,h,hu0⟩ hex
   obtain⟨_,oi,hoi,hpl,hap⟩:=free_spec hfree hF0;have hg:=OZ wY hsel hop inv mid hr0 hi0 hoi (by simp only[xY,Bool.and_eq_true,Option.isNone_iff_eq_none]at hpl;exact hpl.1);obtain⟨v,hy,hv⟩:=F8 (ops:=ops) hpl hg;have hun:=(mem_ready.1 hr0).1;refine wpAny_first (v:=v) hoi (λj o cs b ho=>Region.noSelect_spec hsel j o cs b ho) (λc a w h=>hQ c a _ _ w h) _ listed a W (λj oj hj hji hjun hno=>hap j oj hj hji (λ⟨h1,h2⟩=>hex ⟨j,h1,h2,getD_both hjun⟩) hno) hr0 hy ?_;refine ih _ (λj=>if j=i0 then v else vs j) _ W (inv.set hr0 hi0) (UC wY hst inv mid hr0 hi0 hoi (Below.refl _ _) hv) ?_;have:=ru listed i0 (by rw[inv.size];omega) (getD_both hun) n hi0;omega
theorem yR{id:Nat}{ops:List Oper}{Q:Exit->Act->World->Prop}{a:Act}{w:World}(n:Nat)(F:List Nat)(ps:Nat->Value ⊕ (Value->World->Prop))(hm:P.follows .mixedOrders=true)(hB:gW ops.toArray n F=true)
  (hst:∀j R,ps j= .inr R->∀v W W',R v W->Below W.heap.size W W'->R v W')
  (hQ:∀c a d v w,Q (.panic c) (Act.put a d v) w->Q (.panic c) a w)
  (hop:∀vs i,i<n->lZ P ops.toArray ps a w vs i)
  (hend:∀vs W,Below w.heap.size w W->kF ps vs W n->wpList P ops.toArray Q (ops.drop n) (lay ops.toArray vs a n) W):(Code.region id ops.toArray true).wp P Q a w:=by
 have hn:n<ops.toArray.size:=by
  simp only[gW,Bool.and_eq_true,decide_eq_true_eq]at hB;exact hB.1.1.1.1.2
 have he:Below w.heap.size w { w with drawn:=w.drawn+1}:=(Below.refl _ _).drew;have hc:∀m,cnt (Array.replicate ops.toArray.size false) m=m:=λm=>by
  induction m with
  |zero=>rfl
  |succ m ih=>rw[cnt,ih,getD_replicate_false];rfl
 refine wp_region_any hm ?_;have:=vH (P:=P) (ops:=ops.toArray) (l:=ops.drop n) (λj=>by simp[List.getElem?_drop]) (by simp) hB hst hQ hop hend n (Array.replicate ops.toArray.size false) (λ_=>undef) a { w with drawn:=w.drawn+1}
  ⟨by simp,λj oj _ hl=>(by rw[getD_replicate_false]at hl;cases hl),λt _ ht=>getD_in (by simpa using ht) (getD_replicate_false _ _)⟩
  ⟨he,rfl,rfl,λt=>?_,λj _ hl=>(by rw[getD_replicate_false]at hl;cases hl)⟩ (hc n)
 .rwa [show n+(ops.toArray.size-n)=ops.toArray.size by omega]at this
 .unfold dR;rw[show eX ops.toArray (λj=>(Array.replicate ops.toArray.size false).getD j false) t n=none from ?_];cases h:eX ops.toArray (λj=>(Array.replicate ops.toArray.size false).getD j false) t n with
  |none=>rfl
  |some j=>have:=(bC h).2.1;rw[getD_replicate_false]at this;cases this
def qo(Q:Exit->Act->World->Prop):Exit->Act->World->Prop
 | .panic _=>λ_ _=>False
 |e=>Q e
theorem qo.of{Q:Exit->Act->World->Prop}{e:Exit}{a:Act}{w:World}(h:qo Q e a w):Q e a w:=by
 cases e<;>first|exact h|exact h.elim
theorem cO{Q:Exit->Act->World->Prop}{a:Act}{w:World}(h:Q .normal a w):qo Q .normal a w:=h
theorem dX{id:Nat}{l:List Oper}{Q:Exit->Act->World->Prop}{a:Act}{w:World}(F:List Nat)(ps:List Piece)(hm:P.follows .mixedOrders=true)(hB:gW l.toArray ps.length F=true)
  (h:dY P l.toArray w (qo Q) l ps [] a):(Code.region id l.toArray true).wp P Q a w:=by
 refine Code.wp_mono (Q:=qo Q) (λe a w h=>h.of) ?_;have hn:ps.length<=l.length:=by
  simp only[gW,Bool.and_eq_true,decide_eq_true_eq]at hB;have:=hB.1.1.1.1.2;simp at this;omega
 have hsel:Region.noSelect l.toArray=true:=by
  simp only[gW,Bool.and_eq_true]at hB;exact hB.1.1.1.1.1.1.1
 have spec:=λvs=>sO (P:=P) (ops:=l.toArray) (w:=w) (Q:=qo Q) (a:=a) (qs:=λi=>(ps[i]?).getD (.inl undef)) vs l ps 0 (λj=>by simp) (λj p hj=>by simp[hj]) hn h;refine yR ps.length F (λi=>(ps[i]?).getD (.inl undef)) hm hB ?_ (λ_ _ _ _ _ h=>h) ?_ ?_
 .intro j R hj;by_cases hlt:j<ps.length
  .exact(spec (λ_=>undef)).2.1 j R oM oM hj
  .have:ps[j]? =none:=by simp;omega
   simp[this]at hj
 .intro vs i hi;unfold lZ;obtain⟨o,ho,hs⟩:=(spec vs).1 i oM oM;rw[ho];intro W hW hd;have hs:=hs W hW (wZ hd);have looks:∀t∈o.looksAt l.toArray,(lay l.toArray (fixed (λi=>(ps[i]?).getD (.inl undef)) vs) a i).tmps[t]? =(lay l.toArray vs a i).tmps[t]?:=by
   intro t ht;rw[dM,dM];unfold dR;cases hc:eX l.toArray (λ_=>true) t i with
   |none=>rfl
   |some j=>
    obtain⟨c1,_,c3,_⟩:=bC hc;simp only;rw[kV (iR hd j t c1 c3 ht)]
  rw[gy looks]at hs;simp only;split
  .rename_i hw;rw[if_pos hw]at hs;refine hs.kE (iI (λcs b=>Region.noSelect_spec hsel i o cs b ho) (λt ht=>(looks t ht).symm))
  .rename_i hw;rw[if_neg hw]at hs;exact hs
 .intro vs W hW hall;have:=(spec vs).2.2 W hW (sK (by simpa using hall));have e:lay l.toArray (fixed (λi=>(ps[i]?).getD (.inl undef)) vs) a ps.length=lay l.toArray vs a ps.length:=oD (λt=>by
   rw[dM,dM];unfold dR;cases hc:eX l.toArray (λ_=>true) t ps.length with
   |none=>rfl
   |some j=>
    obtain⟨c1,_,_,_⟩:=bC hc;simp only;rw[kV (kH hall j c1)]) (by rw[eP,eP])
  rw[Nat.zero_add,e]at this;exact this
end
abbrev dw:=aP ⊕ dS
def qX:dw->List UInt8
 | .inl x=>x.key
 | .inr x=>x.key
def BO:dw->Red
 | .inl x=>ig x.int x.n
 | .inr x=>x.red
def O1:dw->Bool
 | .inl x=>decide (x.value.length<=100)&&(x.int||decide (x.n=0))
 | .inr x=>decide (1<=x.at_)&&(decide (x.at_<524288)&&(decide (1<=x.red.c)&&x.red.ok))
def pOk(x:dw):Bool:=decide (1<=(qX x).length)&&(decide ((qX x).length<=120)&&O1 x)
def partsOf(n:aT):List dw:=if n.leaf then n.items.map .inl else n.kids.map .inr
def leastOf(n:aT):Nat:=if n.leaf then 1 else 2
def gX(L:List dw)(i:Nat):Int:=((L.take i).map λx=>(BO x).c).sum
theorem kM(L:List dw):gX L 0=0:=by simp[gX]
theorem qp{L:List dw}{i:Nat}{x:dw}(h:L[i]? =some x):gX L (i+1)=gX L i+(BO x).c:=by
 unfold gX;rw[List.take_add_one,h];simp
def iL(L:List dw)(i:Nat):Bool:=decide (i=0)||bH (((L[i-1]?).map qX).getD []) (((L[i]?).map qX).getD [])
def uM(L:List dw)(i:Nat):Bool:=(((L[i]?).map pOk).getD false)&&(iL L i&&decide (gX L (i+1)<=1073741824))
def iU(L:List dw)(i:Nat):Bool:=(List.range i).all (uM L)
theorem nU(L:List dw)(i:Nat):iU L (i+1)=(iU L i&&uM L i):=by
 unfold iU;rw[List.range_succ,List.all_append];simp
def xZ(n:aT):Bool:=decide (n.items.length<=6)&&(decide (n.kids.length<=6)&&(if n.leaf then decide (n.kids.length=0)else decide (n.items.length=0)))
def ug(n:aT):Bool:=xZ n&&(decide (leastOf n<=(partsOf n).length)&&iU (partsOf n) (partsOf n).length)
theorem O4{L:List dw}{p:dw->Bool}:(L.all p)=(List.range L.length).all (λi=>((L[i]?).map p).getD false):=by
 rw[Bool.eq_iff_iff,List.all_eq_true,List.all_eq_true];constructor
 .intro h i hi;have hi:=List.mem_range.1 hi;rw[List.getElem?_eq_getElem hi];exact h _ (List.getElem_mem hi)
 .intro h x hx;obtain⟨i,hi,e⟩:=List.mem_iff_getElem.1 hx;have:=h i (List.mem_range.2 hi);rw[List.getElem?_eq_getElem hi,e]at this;exact this
theorem zO{L:List dw}(h:∀x∈L,0<=(BO x).c):∀(i d:Nat),gX L i<=gX L (i+d)
 |i,0=>Int.le_refl _
 |i,d+1=>by
  have ih:=zO h i d;by_cases hl:i+d<L.length
  .have:=qp (List.getElem?_eq_getElem hl);have h2:=h _ (List.getElem_mem hl);rw[<- Nat.add_assoc];omega
  .have e:gX L (i+(d+1))=gX L (i+d):=by
    unfold gX;rw[List.take_of_length_le oM,List.take_of_length_le oM]
   omega
theorem V7{x:dw}(h:pOk x=true):0<=(BO x).c:=by
 cases x with
 |inl x=>unfold BO ig;dsimp only;split<;>simp
 |inr x=>
  unfold pOk O1 at h;simp only[Bool.and_eq_true,decide_eq_true_eq]at h;unfold BO;dsimp only;omega
theorem F9(l:List aP)(i:Nat)(hi:i<=l.length):gX (l.map .inl) i=i:=by
 induction i with
 |zero=>simp[gX]
 |succ i ih=>
  have hl:i<(l.map (Sum.inl:aP->dw)).length:=by simp;omega
  rw[qp (List.getElem?_eq_getElem hl),ih oM];simp only[List.getElem_map];unfold BO ig;dsimp only;split<;>rfl
theorem zQ{L:List dw}:iU L L.length=(L.all pOk&&(((List.range L.length).all (iL L))&&decide (∀i,i<L.length->gX L (i+1)<=1073741824))):=by
 rw[O4,Bool.eq_iff_iff];unfold iU uM;simp only[List.all_eq_true,List.mem_range,Bool.and_eq_true,decide_eq_true_eq];constructor
 .intro h;exact⟨λi hi=>(h i hi).1,λi hi=>(h i hi).2.1,λi hi=>(h i hi).2.2⟩
 .rintro⟨h1,h2,h3⟩ i hi;exact⟨h1 i hi,h2 i hi,h3 i hi⟩
theorem Jr{L:List dw}:(List.range L.length).all (iL L)=jw (L.map qX) L.length:=by
 unfold jw iL;congr 1
 funext i
 simp[List.getD_eq_getElem?_getD]
theorem Gf(l:List dS)(i:Nat):jQ l i=gX (l.map .inr) i:=by
 unfold jQ gX;rw[<- List.map_take,List.map_map];rfl
theorem zS(n:aT):ug n=bI n:=by
 unfold ug bI xZ leastOf partsOf;rw[zQ,Jr];cases n.leaf with
 |true=>
  have e1:((n.items.map (Sum.inl:aP->dw)).all pOk)=n.items.all fD:=by rw[List.all_map];congr 1
  have e2:(n.items.map (Sum.inl:aP->dw)).map qX=n.items.map (·.key):=by rw[List.map_map];rfl
  simp only[if_true,e1,e2,List.length_map];rw[Bool.eq_iff_iff];simp only[Bool.and_eq_true,decide_eq_true_eq];constructor
  .rintro⟨⟨h1,h2,h3⟩,h4,h5,h6,h7⟩;exact⟨h5,h6,h4,h1,h3⟩
  .rintro⟨h1,h2,h3,h4,h5⟩;refine⟨⟨h4,oM,h5⟩,h3,h1,h2,λi hi=>?_⟩;rw[F9 _ _ oM];omega
 |false=>
  have e1:((n.kids.map (Sum.inr:dS->dw)).all pOk)=n.kids.all uG:=by rw[List.all_map];congr 1
  have e2:(n.kids.map (Sum.inr:dS->dw)).map qX=n.kids.map (·.key):=by rw[List.map_map];rfl
  simp only[Bool.false_eq_true,if_false,List.length_map];rw[e2,Gf,<- e1,Bool.eq_iff_iff];simp only[Bool.and_eq_true,decide_eq_true_eq];constructor
  .rintro⟨⟨h1,h2,h3⟩,h4,h5,h6,h7⟩;refine⟨h4,h2,h3,h5,h6,?_⟩;have:=h7 (n.kids.length-1) oM;rwa [show n.kids.length-1+1=n.kids.length by omega]at this
  .rintro⟨h1,h2,h3,h4,h5,h6⟩;refine⟨⟨oM,h2,h3⟩,h1,h4,h5,λi hi=>?_⟩;have hc:∀x∈(n.kids.map (Sum.inr:dS->dw)),0<=(BO x).c:=λx hx=>V7 (List.all_eq_true.1 h4 x hx);have:=zO hc (i+1) (n.kids.length-(i+1));rw[show i+1+(n.kids.length-(i+1))=n.kids.length by omega]at this;omega
theorem iW{n:aT}(h:xZ n=true):n.items.length<=6/\n.kids.length<=6/\(partsOf n).length<=6:=by
 unfold xZ at h;simp only[Bool.and_eq_true,decide_eq_true_eq]at h;refine⟨h.1,h.2.1,?_⟩;unfold partsOf;split<;>simp<;>omega
end Go.Dav
namespace Go.Proofs.YtenmnhnlcnmloaaGreat
open Go.RowKit Go.Dav
attribute [local go_sem] Gives ite_val ay
structure Et where
 a1:Option Addr
 l1:Nat
 c1:Nat
 a2:Option Addr
 l2:Nat
 c2:Nat
 b:Bool
 x:Int
def Et.cells(r:Et):List Value:=[.slice r.a1 r.l1 r.c1, .slice r.a2 r.l2 r.c2, .bool r.b, .int .i64 r.x]
def Et.red(r:Et):Red:=ig r.b r.x
theorem O5(a1 a2:Option Addr)(l1 c1 l2 c2:Nat)(b:Bool)(x:Int)(w:World)(hx:I64 x):
  Calls Tryz.prog 43 #[.agg #[.slice a1 l1 c1, .slice a2 l2 c2, .bool b, .int .i64 x]] w λe w'=>
   e= .returned (.agg #[.int .i64 (ig b x).c, .int .i64 (ig b x).n, .int .i64 (hi (ig b x).s), .int .u64 (lo (ig b x).s), .int .i64 (ig b x).l, .int .i64 (ig b x).m])/\Below w.heap.size w w':=by
 cases b
 .exact Jo _ _ x w rfl rfl
 .exact FQ _ _ x w hx
def Js(B:Nat)(r t:Red)(v:Value)(W:World):Prop:=∃g,v= .slice (some ⟨g,0,none⟩) 2 2/\B<=g/\g<W.heap.size/\mY W g 0 [r,t]
theorem Js.later{B:Nat}{r t:Red}:∀v W W',Js B r t v W->Below W.heap.size W W'->Js B r t v W':=
 λ_ _ _ ⟨g,h1,h2,h3,h4⟩ hb=>⟨g,h1,h2,Nat.lt_of_lt_of_le h3 hb.size,zM h4 hb h3⟩
end Go.Proofs.YtenmnhnlcnmloaaGreat
namespace Go.Proofs.YtenmnhnlcnmloaaGreat
open Go.RowKit Go.Dav
attribute [local go_sem] ite_val ay
def Gg:dw->TypeId
 | .inl _=>273
 | .inr _=>274
def oV:dw->FuncId
 | .inl _=>210
 | .inr _=>216
def zf:dw->FuncId
 | .inl _=>209
 | .inr _=>215
def sU:dw->FuncId
 | .inl _=>211
 | .inr _=>217
def zh:dw->FuncId
 | .inl _=>208
 | .inr _=>214
def jR(W:World)(S:Nat->Prop)(u:Value)(i:aP):Prop:=∃ka kl kc va vl vc,u= .agg #[.slice ka kl kc, .slice va vl vc, .bool i.int, .int .i64 i.n]/\au W S ka kl kc i.key/\au W S va vl vc i.value/\I64 i.n
def Eu(W:World)(S:Nat->Prop)(u:Value)(k:dS):Prop:=∃ka kl kc,u= .agg #[.slice ka kl kc, .int .i64 k.at_, .int .i64 k.red.c, .int .i64 k.red.n, .int .i64 (hi k.red.s), .int .u64 (lo k.red.s), .int .i64 k.red.l, .int .i64 k.red.m]/\au W S ka kl kc k.key/\I64 k.at_/\k.red.fits
def dD(W:World)(S:Nat->Prop)(u:Value):dw->Prop
 | .inl i=>jR W S u i
 | .inr k=>Eu W S u k
theorem dD.ext{W W':World}{S:Nat->Prop}{u:Value}:∀ {x:dw},dD W S u x->Below W.heap.size W W'->dD W' S u x
 | .inl _,⟨ka,kl,kc,va,vl,vc,h1,h2,h3,h4⟩,hb=>⟨ka,kl,kc,va,vl,vc,h1,h2.ext hb,h3.ext hb,h4⟩
 | .inr _,⟨ka,kl,kc,h1,h2,h3,h4⟩,hb=>⟨ka,kl,kc,h1,h2.ext hb,h3,h4⟩
theorem dD.same{W W':World}{S:Nat->Prop}{u:Value}(hs:W.heap.size<=W'.heap.size)(hb:∀b,S b->b<W.heap.size->W'.heap[b]? =W.heap[b]?):∀ {x:dw},dD W S u x->dD W' S u x
 | .inl _,⟨ka,kl,kc,va,vl,vc,h1,h2,h3,h4⟩=>⟨ka,kl,kc,va,vl,vc,h1,h2.same hs hb,h3.same hs hb,h4⟩
 | .inr _,⟨ka,kl,kc,h1,h2,h3,h4⟩=>⟨ka,kl,kc,h1,h2.same hs hb,h3,h4⟩
theorem dD.mono{W:World}{S T:Nat->Prop}{u:Value}(hst:∀b,S b->T b):∀ {x:dw},dD W S u x->dD W T u x
 | .inl _,⟨ka,kl,kc,va,vl,vc,h1,h2,h3,h4⟩=>⟨ka,kl,kc,va,vl,vc,h1,h2.mono hst,h3.mono hst,h4⟩
 | .inr _,⟨ka,kl,kc,h1,h2,h3,h4⟩=>⟨ka,kl,kc,h1,h2.mono hst,h3,h4⟩
theorem jD(x:dw)(u:Value)(w:World):(method 407 (Gg x) u "davenport/node.name").run Tryz.prog w= .ok (oV x,u) w:=by cases x<;>kernel_rfl
theorem vI(x:dw)(u:Value)(w:World):(method 407 (Gg x) u "davenport/node.may").run Tryz.prog w= .ok (zf x,u) w:=by cases x<;>kernel_rfl
theorem qw(x:dw)(u:Value)(w:World):(method 407 (Gg x) u "davenport/node.red").run Tryz.prog w= .ok (sU x,u) w:=by cases x<;>kernel_rfl
theorem vJ(x:dw)(u:Value)(w:World):(method 407 (Gg x) u "davenport/node.lay").run Tryz.prog w= .ok (zh x,u) w:=by cases x<;>kernel_rfl
theorem lI(x:dw)(args:Array Value)(w:World):(callFunc (oV x) args).run Tryz.prog w= .ok (.enter (oV x) args) w:=by cases x<;>kernel_rfl
theorem zT(x:dw)(args:Array Value)(w:World):(callFunc (zf x) args).run Tryz.prog w= .ok (.enter (zf x) args) w:=by cases x<;>kernel_rfl
theorem uN(x:dw)(args:Array Value)(w:World):(callFunc (sU x) args).run Tryz.prog w= .ok (.enter (sU x) args) w:=by cases x<;>kernel_rfl
theorem zU(x:dw)(args:Array Value)(w:World):(callFunc (zh x) args).run Tryz.prog w= .ok (.enter (zh x) args) w:=by cases x<;>kernel_rfl
def ZE:Value->Value
 | .agg cs=>cs.getD 0 undef
 |v=>v
theorem jJ{W:World}{S:Nat->Prop}{u:Value}:∀ {x:dw},dD W S u x->∃a n c,ZE u= .slice a n c/\au W S a n c (qX x)
 | .inl _,⟨ka,kl,kc,_,_,_,h1,h2,_⟩=>⟨ka,kl,kc,by rw[h1];rfl,h2⟩
 | .inr _,⟨ka,kl,kc,h1,h2,_⟩=>⟨ka,kl,kc,by rw[h1];rfl,h2⟩
theorem rF{S:Nat->Prop}{u:Value}{x:dw}{a:Option Addr}{n c:Nat}{w:World}(h:dD w S u x)(hk:ZE u= .slice a n c):
  Calls Tryz.prog (oV x) #[u] w λe w'=>e= .returned (.slice a n c)/\Below w.heap.size w w':=by
 cases x with
 |inl i=>
  obtain⟨ka,kl,kc,va,vl,vc,h1,_⟩:=h;subst h1;cases hk;unfold oV;dsimp only;go_enter Tryz.func210,Tryz.ntmps210;go_wp2;go_ret;exact⟨rfl,bW⟩
 |inr i=>
  obtain⟨ka,kl,kc,h1,_⟩:=h;subst h1;cases hk;unfold oV;dsimp only;go_enter Tryz.func216,Tryz.ntmps216;go_wp2;go_ret;exact⟨rfl,bW⟩
def uO(r:Red):Value:= .agg #[.int .i64 r.c, .int .i64 r.n, .int .i64 (hi r.s), .int .u64 (lo r.s), .int .i64 r.l, .int .i64 r.m]
theorem vK{S:Nat->Prop}{u:Value}{x:dw}{w:World}(h:dD w S u x):
  Calls Tryz.prog (sU x) #[u] w λe w'=>e= .returned (uO (BO x))/\Below w.heap.size w w':=by
 cases x with
 |inl i=>
  obtain⟨ka,kl,kc,va,vl,vc,h1,_,_,h4⟩:=h;subst h1;unfold sU;dsimp only;go_enter Tryz.func211,Tryz.ntmps211;go_wp2_with fail;(with_reducible refine(O5 _ _ _ _ _ _ _ _ _ h4).mono ?_);rintro e w1 ⟨rfl,hb⟩
  obtain⟨hc,hf,hs⟩:=after hb;go_wp2;obtain⟨r,hr⟩:∃r,ig i.int i.n=r:=⟨_,rfl⟩;have HR:=Hd hr;rw[hr];clear hr;refine bodyPost_ret (v:=uO r) (by simp[results,Tryz.results211,go_sem,uO, *]) rfl ⟨by unfold BO;dsimp only;rw[HR.o],?_⟩;exact(by have hz:=hb;exact bV)
 |inr i=>
  obtain⟨ka,kl,kc,h1,_⟩:=h;subst h1;unfold sU;dsimp only;go_enter Tryz.func217,Tryz.ntmps217;go_wp2;refine bodyPost_ret (v:=uO i.red) (by simp[results,Tryz.results217,go_sem,uO]) rfl ⟨rfl,?_⟩;exact bW
def Jt(x:aP):Bool:=decide (x.value.length<=100)&&(x.int||decide (x.n=0))
def O6(x:dS):Bool:=decide (1<=x.at_)&&(decide (x.at_<524288)&&(decide (1<=x.red.c)&&x.red.ok))
theorem Gh{S:Nat->Prop}{u:Value}{i:aP}{w:World}(h:jR w S u i):
  Calls Tryz.prog 209 #[u] w λe w'=>e= .returned (.bool (Jt i))/\Below w.heap.size w w':=by
 obtain⟨ka,kl,kc,va,vl,vc,h1,_,h3,h4⟩:=h;subst h1;have hl:=h3.at_.hlen;obtain⟨r,hr⟩:∃r,Jt i=r:=⟨_,rfl⟩;rw[hr];unfold Jt at hr;rw[hl]at hr;have HR:=Hd hr;clear hr h3 h4 hl;obtain⟨key,value,int,n⟩:=i;dsimp only at*;cases int with
 |true=>
  go_enter Tryz.func209,Tryz.ntmps209;go_wp2;all_goals
   go_ret;refine⟨?_,bW⟩;rw[<- HR.o];simp[*]<;>first|omega|(rw[Bool.eq_iff_iff];simp;done)|(rw[Bool.eq_iff_iff];simp;omega)
 |false=>
  go_enter Tryz.func209,Tryz.ntmps209;go_wp2;all_goals
   go_ret;refine⟨?_,bW⟩;rw[<- HR.o];simp[*]<;>first|omega|(rw[Bool.eq_iff_iff];simp;done)|(rw[Bool.eq_iff_iff];simp;omega)
theorem Ju{S:Nat->Prop}{u:Value}{k:dS}{w:World}(h:Eu w S u k):
  Calls Tryz.prog 215 #[u] w λe w'=>e= .returned (.bool (O6 k))/\Below w.heap.size w w':=by
 obtain⟨ka,kl,kc,h1,_,h3,h4⟩:=h;subst h1;have hl:I64 k.red.l:=h4.2.2.1;have hm:I64 k.red.m:=h4.2.2.2;obtain⟨r,hr⟩:∃r,O6 k=r:=⟨_,rfl⟩;rw[hr];unfold O6 at hr;have HR:=Hd hr;clear hr h3 h4;obtain⟨key,at_,red⟩:=k;dsimp only at*;by_cases g1:1<=at_
 .by_cases g2:at_<524288
  .by_cases g3:1<=red.c
   .go_enter Tryz.func215,Tryz.ntmps215;go_wp2_with fail;(with_reducible refine(zL red _ hl hm).mono ?_);rintro e w1 ⟨rfl,hb⟩
    cases hok:red.ok with
    |true=>
     have e0:Jj true=0:=rfl;go_wp2;go_ret;exact⟨bg (by rw[<- HR.o,hok];simp;omega),(by have hz:=hb;exact bV)⟩
    |false=>
     have e0:Jj false=230:=rfl;go_wp2;go_ret;exact⟨bg (by rw[<- HR.o,hok];simp),(by have hz:=hb;exact bV)⟩
   .have e:r=false:=by rw[<- HR.o];simp;omega
    subst e;go_enter Tryz.func215,Tryz.ntmps215;go_wp2;go_ret;exact⟨rfl,bW⟩
  .have e:r=false:=by rw[<- HR.o];simp;omega
   subst e;go_enter Tryz.func215,Tryz.ntmps215;go_wp2;go_ret;exact⟨rfl,bW⟩
 .have e:r=false:=by rw[<- HR.o];simp;omega
  subst e;go_enter Tryz.func215,Tryz.ntmps215;go_wp2;go_ret;exact⟨rfl,bW⟩
theorem KO{S:Nat->Prop}{u:Value}{x:dw}{w:World}(h:dD w S u x):
  Calls Tryz.prog (zf x) #[u] w λe w'=>e= .returned (.bool (O1 x))/\Below w.heap.size w w':=by
 cases x with
 |inl i=>exact Gh h
 |inr k=>exact Ju h
end Go.Proofs.YtenmnhnlcnmloaaGreat

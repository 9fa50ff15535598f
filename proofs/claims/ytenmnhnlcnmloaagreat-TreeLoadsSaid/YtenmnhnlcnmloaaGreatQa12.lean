/- Part of a proof of a law of the layer of trees. -/
import Derived.Test.YtenmnhnlcnmloaaGreatQa09
import Derived.Test.YtenmnhnlcnmloaaGreatQa11
import Derived.Test.YtenmnhnlcnmloaaGreatQa02
import Derived.Test.YtenmnhnlcnmloaaGreatQa04
import Derived.Laws.BitsLemmas
import Derived.Test.YtenmnhnlcnmloaaGreatQa03
import Derived.Test.YtenmnhnlcnmloaaGreatQa01
set_option linter.unusedVariables false
set_option linter.unusedSimpArgs false
set_option maxHeartbeats 8000000
set_option maxRecDepth 8000
namespace Go.Dav
open Go Go.RowKit
theorem Pm{W:World}{p e base:Nat}{cs:List Value}(h:Blk W p cs e)(hm:cs.length<=maxLen)(hb:base<=p):W.ownsRow base e 1 (.slice (some ⟨p,0,none⟩) cs.length cs.length) cs.length cs:=
 ⟨by simp, .inr ⟨p,cs.length,cs.toArray,rfl,hb,h,Nat.le_refl _,hm,by simp,by simp⟩⟩
def nJ(n:aT):List UInt8:=[if n.leaf then 1 else 2,UInt8.ofNat (partsOf n).length]
def lJ(n:aT)(k:Nat):List UInt8:=nJ n++((partsOf n).take k).flatMap vS
theorem zZ{n:aT}{k:Nat}{x:dw}(h:(partsOf n)[k]? =some x):lJ n (k+1)=lJ n k++vS x:=by
 unfold lJ;rw[List.take_add_one,h];simp
theorem tu(n:aT):lJ n (partsOf n).length=aJ n:=by
 unfold lJ aJ nJ;rw[List.take_length]
theorem EF(x:aP):(iZ x).length=x.key.length+x.value.length+11:=by
 unfold iZ;simp[bG];omega
theorem Gz(x:dS):(jS x).length=x.key.length+45:=by
 unfold jS;simp[bG]
theorem MK{x:dw}(h:pOk x=true):(vS x).length<=231:=by
 obtain⟨h1,h2⟩:=Gx h;cases x with
 |inl i=>have:=h2 i rfl;unfold vS;dsimp only;rw[EF];unfold qX at h1;dsimp only at h1;omega
 |inr i=>unfold vS;dsimp only;rw[Gz];unfold qX at h1;dsimp only at h1;omega
theorem yw:∀ {l:List dw},(∀x∈l,pOk x=true)->(l.flatMap vS).length<=231*l.length
 |[],_=>by simp
 |x::l,h=>by
  have h1:=MK (h x (by simp));have h2:=yw (l:=l) λy hy=>h y (by simp[hy]);simp only[List.flatMap_cons,List.length_append,List.length_cons];omega
theorem fQ{n:aT}(h:bI n=true):xZ n=true/\leastOf n<=(partsOf n).length/\iU (partsOf n) (partsOf n).length=true/\∀x∈partsOf n,pOk x=true:=by
 rw[<- zS]at h;unfold ug at h;simp only[Bool.and_eq_true,decide_eq_true_eq]at h;refine⟨h.1,h.2.1,h.2.2,?_⟩;have h2:=h.2.2;rw[zQ]at h2;simp only[Bool.and_eq_true]at h2;exact List.all_eq_true.1 h2.1
theorem tC{n:aT}(h:bI n=true)(k:Nat):(lJ n k).length<=1388:=by
 obtain⟨h1,_,_,h4⟩:=fQ h;have h6:=(iW h1).2.2;have:=yw (l:=(partsOf n).take k) λx hx=>h4 x (List.mem_of_mem_take hx);unfold lJ nJ;rw[List.length_append];have h7:((partsOf n).take k).length<=6:=by rw[List.length_take];omega
 simp only[List.length_cons,List.length_nil];omega
def qA(w:World)(N:aT)(e:Ending)(w':World):Prop:=
 ∃a n c,e= .returned (.tuple #[.slice a n c, .int .i64 (qQ N)])/\au w' (λb=>w.heap.size<=b) a n c (if bI N then aJ N else [])/\Below w.heap.size w w'
theorem oI{N:aT}(h:bI N=true):qQ N=0:=by unfold qQ;rw[h];rfl
theorem jT{N:aT}(h:bI N=false):qQ N=240:=by unfold qQ;rw[h];rfl
def nY(P:Program)(o:Oper)(a:Act)(W:World)(v:Value)(Q:World->Prop):Prop:=
 match (execOp a.eval o).run P W with
 | .ok (.value u) W'=>u=v/\Q W'
 | .ok .skip W'=>undef=v/\Q W'
 | .ok (.enter f args) W'=>Calls P f args W' (λe W''=>e= .returned v/\Q W'')
 |_=>False
theorem GH{P:Program}{o:Oper}{a:Act}{W:World}{v:Value}{R:World->Prop}{K:Act->World->Prop}{Q:Exit->Act->World->Prop}
  (h:nY P o a W v R) (hk:∀W',R W'->K (a.put o.dst v) W'):o.wp P a W K Q:=by
 unfold nY at h;unfold Oper.wp;generalize(execOp a.eval o).run P W=r at*;cases r with
 |ok n w'=>
  cases n<;>simp only[Oper.upon]at h⊢
  case value u=>obtain⟨rfl,h⟩:=h;exact hk _ h
  case skip=>obtain⟨rfl,h⟩:=h;exact hk _ h
  case enter f args=>
   refine h.mono λe w'' ⟨he,hr⟩=>?_;subst he;exact hk _ hr
 |halt x w'=>cases h
theorem nY.kE{P:Program}{o:Oper}{a a':Act}{W:World}{v:Value}{Q:World->Prop}(h:nY P o a W v Q)(he:execOp a'.eval o=execOp a.eval o):nY P o a' W v Q:=by
 unfold nY at*;rwa [he]
section
variable{P:Program}{ops:Array Oper}{Inv:Nat->World->Prop}{ws:List Nat}
def kY(ops:Array Oper):List Nat->Bool
 |p::q::l=>Region.waitsFor .any ops q p&&(decide (p<q)&&kY ops (q::l))
 |_=>true
theorem nZ:∀ {ws:List Nat} {k p q:Nat},kY ops ws=true->ws[k]? =some p->ws[k+1]? =some q->Region.waitsFor .any ops q p=true/\p<q
 |[],k,p,q,_,h,_=>by simp at h
 |[_],k,p,q,_,_,h=>by simp at h
 |a::b::l,0,p,q,hc,hp,hq=>by
  unfold kY at hc;simp only[Bool.and_eq_true,decide_eq_true_eq]at hc;have e1:a=p:=by simpa using hp
  have e2:b=q:=by simpa using hq
  rw[<- e1,<- e2];exact⟨hc.1,hc.2.1⟩
 |a::b::l,k+1,p,q,hc,hp,hq=>by
  unfold kY at hc;simp only[Bool.and_eq_true]at hc;exact nZ (ws:=b::l) (k:=k) hc.2.2 (by simpa using hp) (by simpa using hq)
theorem xA{ws:List Nat}(hc:kY ops ws=true):∀(d k:Nat) {p q:Nat},ws[k]? =some p->ws[k+d+1]? =some q->p<q
 |0,k,p,q,hp,hq=>(nZ hc hp (by simpa using hq)).2
 |d+1,k,p,q,hp,hq=>by
  have hl:=(List.getElem?_eq_some_iff.1 hq).1;obtain⟨r,hr⟩:∃r,ws[k+d+1]? =some r:=⟨_,List.getElem?_eq_getElem oM⟩;have h1:=xA hc d k hp hr;have h2:=(nZ hc hr (by rw[show k+d+1+1=k+(d+1)+1 by omega];exact hq)).2;omega
theorem Aa{ws:List Nat}(hc:kY ops ws=true){j k p:Nat}(hj:ws[j]? =some p)(hk:ws[k]? =some p):j=k:=by
 rcases Nat.lt_trichotomy j k with h|h|h
 .have:=xA hc (k-j-1) j hj (q:=p) (by rw[show j+(k-j-1)+1=k by omega];exact hk);omega
 .exact h
 .have:=xA hc (j-k-1) k hk (q:=p) (by rw[show k+(j-k-1)+1=j by omega];exact hj);omega
structure Yf(Inv:Nat->World->Prop)(ws:List Nat)(ops:Array Oper)(vs:Nat->Value)(a0:Act)(listed:Array Bool)(a:Act)(W:World)(c:Nat):Prop where
 inv:Inv c W
 le:c<=ws.length
 upto:∀(k p:Nat),ws[k]? =some p->(listed.getD p false=true↔k<c)
 size:a.tmps.size=a0.tmps.size
 defers:a.defers=a0.defers
 slots:∀t:Nat,a.tmps[t]? =dR ops (λj=>listed.getD j false) vs a0 ops.size t
def loC(ops:Array Oper)(i:Nat):List Nat->Nat->Nat
 |[],_=>0
 |p::l,k=>if Region.waitsFor .any ops i p then max (k+1) (loC ops i l (k+1))else loC ops i l (k+1)
def hiC(ops:Array Oper)(i:Nat):List Nat->Nat->Nat
 |[],k=>k
 |p::l,k=>if Region.waitsFor .any ops p i then k else hiC ops i l (k+1)
theorem TT{i:Nat}{c:Nat}:∀(l:List Nat) (k:Nat),(∀(j p:Nat),l[j]? =some p->Region.waitsFor .any ops i p=true->k+j<c)->loC ops i l k<=c
 |[],_,_=>Nat.zero_le _
 |p::l,k,h=>by
  have ih:=TT (c:=c) l (k+1) λj q hq hw=>by have:=h (j+1) q (by simpa using hq) hw;omega
  unfold loC;split
  .rename_i hw;have:=h 0 p rfl hw;omega
  .exact ih
theorem TU{i:Nat}{c:Nat}:∀(l:List Nat) (k:Nat),c<=k+l.length->(∀(j p:Nat),l[j]? =some p->Region.waitsFor .any ops p i=true->c<=k+j)->c<=hiC ops i l k
 |[],k,hl,_=>by simpa[hiC]using hl
 |p::l,k,hl,h=>by
  unfold hiC;split
  .rename_i hw;have:=h 0 p rfl hw;omega
  .exact TU l (k+1) (by simp at hl;omega) λj q hq hw=>by have:=h (j+1) q (by simpa using hq) hw;omega
def mM(P:Program)(Inv:Nat->World->Prop)(ws:List Nat)(ops:Array Oper)(vs:Nat->Value)(a0:Act)(i:Nat):Prop:=
 match ops[i]? with
 |none=>True
 |some o=>
  (∀k,ws[k]? =some i->Region.wanted o (yielded ops (lay ops vs a0 i).tmps)=true/\∀W,Inv k W->nY P o (lay ops vs a0 i) W (vs i) (Inv (k+1)))/\
  (i∉ws->∀c W,loC ops i ws 0<=c->c<=hiC ops i ws 0->Inv c W->if Region.wanted o (yielded ops (lay ops vs a0 i).tmps)then Gives P o (lay ops vs a0 i) W (λu _=>u=vs i)else undef=vs i)
theorem Pn(hst:∀c W W',Inv c W->Below W.heap.size W W'->Inv c W')(hch:kY ops ws=true)(hwn:∀p∈ws,p<ops.size){vs:Nat->Value}{a0:Act}{listed:Array Bool}{a:Act}{W:World}{c:Nat}{Q:Exit->Act->World->Prop}
  (hB:yO ops ops.size=true) (hsel:Region.noSelect ops=true)
  (hop:∀i,i<ops.size->mM P Inv ws ops vs a0 i) (inv:HeadInv .any ops ops.size listed) (mid:Yf Inv ws ops vs a0 listed a W c)
  {i:Nat} (hr:i∈Region.ready .any ops listed) {K:Act->World->Prop}
  (hk:∀a W c,HeadInv .any ops ops.size (listed.setIfInBounds i true)->Yf Inv ws ops vs a0 (listed.setIfInBounds i true) a W c->K a W):wpOp P ops Q i K a W:=by
 obtain⟨hun,oi,hoi,hall⟩:=mem_ready.1 hr;have hin:i<ops.size:=(Array.getElem?_eq_some_iff.1 hoi).1;have yP:listed.getD i false=false:=getD_both hun;have hisz:i<listed.size:=by rw[inv.size];exact hin
 have later:∀j oj d,j<ops.size->ops[j]? =some oj->oj.dst=some d->listed.getD j false=true->(d∈oi.looksAt ops\/oi.dst=some d)->j<i:=by
  intro j oj d hj hoj hd hl hlook;have hji:i≠j:=λe=>by subst e;rw[yP]at hl;cases hl
  obtain⟨_,h1,_⟩:=iG hB hin hj hoi hoj hd (hlook.imp id λh=>⟨h,hji⟩);rcases Nat.lt_trichotomy i j with h|h|h
  .obtain⟨oj',LX,e,he,hb,hon⟩:=Region.waitsFor_spec (h1 h);have:=inv.closed j oj' LX hl e he hb;rw[hon,yP]at this;cases this
  .exact absurd h hji
  .exact h
 have early:∀j oj d,j<i->ops[j]? =some oj->oj.dst=some d->(d∈oi.looksAt ops)->listed.getD j false=true:=by
  intro j oj d hj hoj hd hlook;obtain⟨_,_,h2⟩:=iG hB hin oM hoi hoj hd (.inl hlook);obtain⟨oi',hoi',e,he,hb,hon⟩:=Region.waitsFor_spec (h2 hj);have:oi'=oi:=Option.some.inj (hoi'.symm.trans hoi);subst this;have:=hall e he hb;rwa [hon]at this
 have looks:∀t∈oi.looksAt ops,(lay ops vs a0 i).tmps[t]? =a.tmps[t]?:=by
  intro t ht;rw[dM,mid.slots t];unfold dR;rw[iw (ops:=ops) (t:=t) (p:=λ_=>true) (q:=λj=>listed.getD j false) (m:=i) (n:=ops.size) ?_];intro j;constructor
  .rintro⟨h1,_,h3⟩;obtain⟨oj,hoj,hd⟩:=Option.bind_eq_some_iff.1 h3;exact⟨oM,early j oj t h1 hoj hd ht,h3⟩
  .rintro⟨h1,h2,h3⟩;obtain⟨oj,hoj,hd⟩:=Option.bind_eq_some_iff.1 h3;exact⟨later j oj t h1 hoj hd h2 (.inl ht),rfl,h3⟩
 have waits:∀p,Region.waitsFor .any ops i p=true->listed.getD p false=true:=λp hp=>by
  obtain⟨oi',hoi',e,he,hb,hon⟩:=Region.waitsFor_spec hp;have:oi'=oi:=Option.some.inj (hoi'.symm.trans hoi);subst this;have:=hall e he hb;rwa [hon]at this
 have waited:∀p,Region.waitsFor .any ops p i=true->listed.getD p false=false:=λp hp=>by
  obtain⟨op',hop',e,he,hb,hon⟩:=Region.waitsFor_spec hp;cases hl:listed.getD p false with
  |false=>rfl
  |true=>
   have:=inv.closed p op' hop' hl e he hb;rw[hon,yP]at this;cases this
 have put:∀W' c',Inv c' W'->c'<=ws.length->(∀(k p:Nat),ws[k]? =some p->((listed.setIfInBounds i true).getD p false=true↔k<c'))->K (a.put oi.dst (vs i)) W':=by
  intro W' c' hi' hle' hup';refine hk _ W' c' (inv.set hr hin) ⟨hi',hle',hup',by rw[sJ,mid.size],by rw[put_defers,mid.defers],λt=>?_⟩;rw[wX,mid.size];unfold dR;by_cases hd:oi.dst=some t
  .simp only[hd,if_true];have:eX ops (λj=>(listed.setIfInBounds i true).getD j false) t ops.size=some i:=by
    cases hc:eX ops (λj=>(listed.setIfInBounds i true).getD j false) t ops.size with
    |none=>exact absurd ⟨by simp[hisz],by simp[hoi,hd]⟩ (jL hc i hin)
    |some j=>
     obtain⟨c1,c2,c3,c4⟩:=bC hc;obtain⟨oj,hoj,hdj⟩:=Option.bind_eq_some_iff.1 c3;by_cases e:j=i
     .rw[e]
     .have hlj:listed.getD j false=true:=by rwa [getD_set_ne false (Ne.symm e)]at c2
      have:=later j oj t c1 hoj hdj hlj (.inr hd);exact absurd ⟨by simp[hisz],by simp[hoi,hd]⟩ (c4 i this hin)
   rw[this]
  .simp only[hd,if_false];rw[mid.slots t];unfold dR;have:eX ops (λj=>(listed.setIfInBounds i true).getD j false) t ops.size=eX ops (λj=>listed.getD j false) t ops.size:=by
    refine iw λj=>?_;by_cases e:j=i
    .subst e;simp[hoi,hd]
    .rw[getD_set_ne false (Ne.symm e)]
   rw[this]
 have hs:=hop i hin;unfold mM at hs;simp only[hoi]at hs;have same:execOp a.eval oi=execOp (lay ops vs a0 i).eval oi:=iI (λcs b=>Region.noSelect_spec hsel i oi cs b hoi) (λt ht=>(looks t ht).symm);unfold wpOp;simp only[hoi];by_cases hw:i∈ws
 .obtain⟨k,hkl,hke⟩:=List.mem_iff_getElem.1 hw;have hki:ws[k]? =some i:=by rw[List.getElem?_eq_getElem hkl,hke]
  obtain⟨h1,h2⟩:=hs.1 k hki;have hck:c=k:=by
   have a1:¬k<c:=λh=>by have:=(mid.upto k i hki).2 h;rw[yP]at this;cases this
   have a2:k<=c:=by
    cases k with
    |zero=>omega
    |succ k=>
     obtain⟨p,hp⟩:∃p,ws[k]? =some p:=⟨_,List.getElem?_eq_getElem oM⟩;have:=(mid.upto k p hp).1 (waits p (nZ hch hp hki).1);omega
   omega
  subst hck;rw[gy looks]at h1;rw[if_pos h1];refine .inl (GH ((h2 W mid.inv).kE same) λW' hW'=>put W' (c+1) hW' oM λj p hp=>?_);by_cases e:p=i
  .subst e;have:=Aa hch hp hki;subst this;simp[hisz]
  .rw[getD_set_ne false (Ne.symm e),mid.upto j p hp];have:j≠c:=λh=>by subst h;rw[hki]at hp;cases hp;exact e rfl
   omega
 .have h2:=hs.2 hw c W (TT ws 0 λj p hp hwt=>by have:=(mid.upto j p hp).1 (waits p hwt);omega)
   (TU ws 0 (by have:=mid.le;omega) λj p hp hwt=>by
    have:=waited p hwt;have h3:¬j<c:=λh=>by have:=(mid.upto j p hp).2 h;simp_all
    omega) mid.inv
  rw[gy looks]at h2;have hup:∀(k p:Nat),ws[k]? =some p->((listed.setIfInBounds i true).getD p false=true↔k<c):=λk p hp=>by
   have e:p≠i:=λh=>hw (by rw[<- h];exact List.mem_of_getElem? hp);rw[getD_set_ne false (Ne.symm e)];exact mid.upto k p hp
  split
  .rename_i hwt;rw[if_pos hwt]at h2;refine .inl (zA (h2.kE same) λv W' hb hv=>?_);subst hv;exact put W' c (hst c W W' mid.inv hb) mid.le hup
  .rename_i hwt;rw[if_neg hwt]at h2;rw[h2];exact put W c mid.inv mid.le hup
theorem EG(hst:∀c W W',Inv c W->Below W.heap.size W W'->Inv c W')(hch:kY ops ws=true)(hwn:∀p∈ws,p<ops.size){vs:Nat->Value}{a0:Act}{Q:Exit->Act->World->Prop}
  (hB:yO ops ops.size=true) (hsel:Region.noSelect ops=true) (hback:Rq ops ops.size=true)
  (hop:∀i,i<ops.size->mM P Inv ws ops vs a0 i)
  (hend:∀W,Inv ws.length W->Q .normal (lay ops vs a0 ops.size) W):
  ∀(f:Nat) (listed:Array Bool) (a:Act) (W:World) (c:Nat),HeadInv .any ops ops.size listed->Yf Inv ws ops vs a0 listed a W c->cnt listed ops.size=f->
   wpAny P .any ops Q f listed a W:=by
 intro f;induction f with
 |zero=>
  intro listed a W c inv mid hc;have hall:=qh listed ops.size hc;have ha:a=lay ops vs a0 ops.size:=oD (λt=>by
   rw[dM,mid.slots t];unfold dR;rw[iw (ops:=ops) (t:=t) (p:=λj=>listed.getD j false) (q:=λ_=>true) (m:=ops.size) (n:=ops.size) ?_];intro j;constructor
   .rintro⟨h1,_,h3⟩;exact⟨h1,rfl,h3⟩
   .rintro⟨h1,_,h3⟩;exact⟨h1,hall j h1,h3⟩) (by rw[mid.defers,eP])
  have hcl:c=ws.length:=by
   have:=mid.le;by_cases h:c<ws.length
   .obtain⟨p,hp⟩:∃p,ws[c]? =some p:=⟨_,List.getElem?_eq_getElem h⟩;have:=(mid.upto c p hp).1 (hall p (hwn p (List.mem_of_getElem? hp)));omega
   .omega
  subst hcl;rw[ha];refine⟨?_,hend W mid.inv⟩;cases hr:Region.ready .any ops listed with
  |nil=>rfl
  |cons i r=>
   obtain⟨hun,o,ho,_⟩:=mem_ready.1 (by rw[hr];exact List.mem_cons_self:i∈Region.ready .any ops listed);have:=hall i (Array.getElem?_eq_some_iff.1 ho).1;rw[getD_both hun]at this;cases this
 |succ f ih=>
  intro listed a W c inv mid hc;obtain⟨i0,hi0,hu0,hlow⟩:=iJ listed ops.size oM;refine⟨λh=>?_,λi hi=>?_⟩
  .exfalso;have h1:=List.all_eq_true.1 hback i0 (List.mem_range.2 hi0);cases ho:ops[i0]? with
   |none=>simp[ho]at h1
   |some o=>
    simp only[ho]at h1;have:i0∈Region.ready .any ops listed:=by
     refine mem_ready.2 ⟨getD_in (by rw[inv.size];omega) hu0,o,ho,λe he hb=>?_⟩;have h2:=Array.all_eq_true'.1 h1 e he;simp only[hb,Bool.not_true,Bool.false_or,decide_eq_true_eq]at h2;exact hlow e.on h2
    rw[h]at this;cases this
  .have hun:=(mem_ready.1 hi).1;have hin:i<ops.size:=by obtain⟨_,o,ho,_⟩:=mem_ready.1 hi;exact(Array.getElem?_eq_some_iff.1 ho).1
   refine Pn hst hch hwn hB hsel hop inv mid hi λa' W' c' Rt mid'=>ih _ a' W' c' Rt mid' ?_;have:=ru listed i (by rw[inv.size];omega) (getD_both hun) ops.size hin;omega
def GI(ops:Array Oper)(ws:List Nat)(n:Nat):Bool:=
 Region.noSelect ops&&(yO ops ops.size&&(Rq ops ops.size&&(kY ops ws&&(ws.all (λp=>decide (p<ops.size))&&decide (n=ops.size)))))
def gJ(P:Program)(Inv:Nat->World->Prop)(ws:List Nat)(ops:Array Oper)(Q:Exit->Act->World->Prop):Nat->Nat->List Oper->List Value->Act->Prop
 |k,c,o::os,v::vs,a=>
  (if ws[c]? =some k then(Region.wanted o (yielded ops a.tmps)=true/\∀W,Inv c W->nY P o a W v (Inv (c+1)))/\gJ P Inv ws ops Q (k+1) (c+1) os vs (a.put o.dst v)
  else(k∉ws/\∀c W,loC ops k ws 0<=c->c<=hiC ops k ws 0->Inv c W->if Region.wanted o (yielded ops a.tmps)then Gives P o a W (λu _=>u=v)else undef=v)/\gJ P Inv ws ops Q (k+1) c os vs (a.put o.dst v))
 |_,_,_,_,a=>∀W,Inv ws.length W->Q .normal a W
theorem Dl{Q:Exit->Act->World->Prop}{a0:Act}(hch:kY ops ws=true){vf:Nat->Value}:∀(l:List Oper) (vs:List Value) (k c:Nat),(∀j:Nat,l[j]? =ops[k+j]?)->(∀j v,vs[j]? =some v->vf (k+j)=v)->vs.length=l.length->
  (∀j,j<c->∃p,ws[j]? =some p/\p<k)->gJ P Inv ws ops Q k c l vs (lay ops vf a0 k)->
  (∀i,k<=i->i<k+l.length->mM P Inv ws ops vf a0 i)/\(∀W,Inv ws.length W->Q .normal (lay ops vf a0 (k+l.length)) W)
 |[],[],k,c,_,_,_,_,h=>⟨λi h1 h2=>by simp at h2;omega,by simpa[gJ]using h⟩
 |[],_::_,_,_,_,_,hl,_,_=>by simp at hl
 |_::_,[],_,_,_,_,hl,_,_=>by simp at hl
 |o::l,v::vs,k,c,hl,hv,hlen,hlow,h=>by
  have h0:ops[k]? =some o:=by simpa using(hl 0).symm
  have hv0:vf k=v:=by simpa using hv 0 v rfl
  have hb:(ops[k]?).bind (·.dst)=o.dst:=by rw[h0];rfl
  have EH:(lay ops vf a0 k).put o.dst v=lay ops vf a0 (k+1):=by rw[lay,hb,hv0]
  have rest:=λc' (hlow':∀j,j<c'->∃p,ws[j]? =some p/\p<k+1) (h':gJ P Inv ws ops Q (k+1) c' l vs (lay ops vf a0 (k+1)))=>Dl hch l vs (k+1) c' (λj=>by have:=hl (j+1);simpa[Nat.add_assoc,Nat.add_comm 1 j]using this)
   (λj q hj=>by have:=hv (j+1) q (by simpa using hj);simpa[Nat.add_assoc,Nat.add_comm 1 j]using this) (by simpa using hlen) hlow' h'
  have fin:∀(hd:mM P Inv ws ops vf a0 k) (r:(∀i,k+1<=i->i<k+1+l.length->mM P Inv ws ops vf a0 i)/\(∀W,Inv ws.length W->Q .normal (lay ops vf a0 (k+1+l.length)) W)),
    (∀i,k<=i->i<k+(o::l).length->mM P Inv ws ops vf a0 i)/\(∀W,Inv ws.length W->Q .normal (lay ops vf a0 (k+(o::l).length)) W):=λhd r=>by
   refine⟨λi h1 h2=>?_,?_⟩
   .by_cases e:i=k
    .subst e;exact hd
    .exact r.1 i oM (by simp at h2;omega)
   .rw[show k+(o::l).length=k+1+l.length by simp;omega];exact r.2
  unfold gJ at h;split at h
  .rename_i hw;obtain⟨⟨h1,h2⟩,h3⟩:=h;rw[EH]at h3;refine fin ?_ (rest (c+1) (λj hj=>?_) h3)
   .unfold mM;rw[h0];refine⟨λj hj=>?_,λhn=>absurd (List.mem_of_getElem? hw) hn⟩;have:=Aa hch hj hw;subst this;rw[hv0];exact⟨h1,h2⟩
   .by_cases e:j=c
    .subst e;exact⟨k,hw,oM⟩
    .obtain⟨p,hp,hpk⟩:=hlow j oM;exact⟨p,hp,oM⟩
  .rename_i hw;obtain⟨⟨h1,h2⟩,h3⟩:=h;rw[EH]at h3;refine fin ?_ (rest c (λj hj=>by obtain⟨p,hp,hpk⟩:=hlow j hj;exact⟨p,hp,oM⟩) h3);unfold mM;rw[h0];refine⟨λj hj=>absurd (List.mem_of_getElem? hj) h1,λ_=>?_⟩;rw[hv0];exact h2
theorem eF{id:Nat}{l:List Oper}{Q:Exit->Act->World->Prop}{a:Act}{w:World}(Inv:Nat->World->Prop)(ws:List Nat)(vs:List Value)(hm:P.follows .mixedOrders=true)(hB:GI l.toArray ws vs.length=true)
  (hst:∀c W W',Inv c W->Below W.heap.size W W'->Inv c W') (h0:Inv 0 w)
  (h:gJ P Inv ws l.toArray Q 0 0 l vs a):(Code.region id l.toArray true).wp P Q a w:=by
 simp only[GI,Bool.and_eq_true,decide_eq_true_eq,List.all_eq_true]at hB;obtain⟨hsel,wY,hback,hch,hwn,hn⟩:=hB;have hc:∀m,cnt (Array.replicate l.toArray.size false) m=m:=λm=>by
  induction m with
  |zero=>rfl
  |succ m ih=>rw[cnt,ih,getD_replicate_false];rfl
 have spec:=Dl (P:=P) (ops:=l.toArray) (a0:=a) (Q:=Q) hch (vf:=λi=>(vs[i]?).getD undef) l vs 0 0 (λj=>by simp) (λj v hj=>by simp[hj]) (by simpa using hn) (λj hj=>oM) h;refine wp_region_any hm ?_;have:=EG (P:=P) (ops:=l.toArray) (Q:=Q) hst hch hwn wY hsel hback (λi hi=>spec.1 i (Nat.zero_le _) (by simpa using hi)) (by have:=spec.2;simpa using this) l.toArray.size (Array.replicate l.toArray.size false) a { w with drawn:=w.drawn+1} 0
  ⟨by simp,λj oj _ hl=>(by rw[getD_replicate_false]at hl;cases hl),λt _ ht=>getD_in (by simpa using ht) (getD_replicate_false _ _)⟩
  ⟨hst 0 w _ h0 (Below.refl _ _).drew,Nat.zero_le _,λk p _=>by rw[getD_replicate_false];simp,rfl,rfl,λt=>?_⟩ (hc _)
 .exact this
 .unfold dR;rw[show eX l.toArray (λj=>(Array.replicate l.toArray.size false).getD j false) t l.toArray.size=none from ?_];cases h:eX l.toArray (λj=>(Array.replicate l.toArray.size false).getD j false) t l.toArray.size with
  |none=>rfl
  |some j=>have:=(bC h).2.1;rw[getD_replicate_false]at this;cases this
section
variable{Q:Exit->Act->World->Prop}{o:Oper}{os:List Oper}{vs:List Value}{a:Act}{v:Value}{k c:Nat}
theorem Ac(hk:ws[c]?≠some k)(hn:k∉ws)(hw:Region.wanted o (yielded ops a.tmps)=true)(h:∀c W,loC ops k ws 0<=c->c<=hiC ops k ws 0->Inv c W->Gives P o a W (λu _=>u=v))
  (hr:gJ P Inv ws ops Q (k+1) c os vs (a.put o.dst v)):gJ P Inv ws ops Q k c (o::os) (v::vs) a:=by
 unfold gJ;rw[if_neg hk];exact⟨⟨hn,λc W h1 h2 h3=>by rw[if_pos hw];exact h c W h1 h2 h3⟩,hr⟩
theorem Cb(hk:ws[c]? =some k)(hw:Region.wanted o (yielded ops a.tmps)=true)(h:∀W,Inv c W->nY P o a W v (Inv (c+1)))
  (hr:gJ P Inv ws ops Q (k+1) (c+1) os vs (a.put o.dst v)):gJ P Inv ws ops Q k c (o::os) (v::vs) a:=by
 unfold gJ;rw[if_pos hk];exact⟨⟨hw,h⟩,hr⟩
theorem iD(h:∀W,Inv ws.length W->Q .normal a W):gJ P Inv ws ops Q k c [] [] a:=by
 unfold gJ;exact h
end
end
section
variable{P:Program}{Inv:Nat->World->Prop}{ws:List Nat}{ops:Array Oper}{Q:Exit->Act->World->Prop}{k c:Nat}{o:Oper}{os:List Oper}{v:Value}{vs:List Value}{a a':Act}
theorem cG(h:∀c W,loC ops k ws 0<=c->c<=hiC ops k ws 0->Inv c W->Gives P o a W (λu _=>u=v))(hr:gJ P Inv ws ops Q (k+1) c os vs a')(hk:ws[c]?≠some k:=by decide)(hn:k∉ws:=by decide)(hw:Region.wanted o (yielded ops a.tmps)=true:=by rfl)(ha:a.put o.dst v=a':=by simp only[Act.put,pB,pC,pD];rfl):gJ P Inv ws ops Q k c (o::os) (v::vs) a:=Ac hk hn hw h (by rw[ha];exact hr)
theorem cD(hr:gJ P Inv ws ops Q (k+1) c os vs a')(h:∀c W,loC ops k ws 0<=c->c<=hiC ops k ws 0->Inv c W->Gives P o a W (λu _=>u=v):=by intro cc W hlo hhi hI;go_simp;refine⟨Below.refl _ _,?_⟩;rfl)(hk:ws[c]?≠some k:=by decide)(hn:k∉ws:=by decide)(hw:Region.wanted o (yielded ops a.tmps)=true:=by rfl)(ha:a.put o.dst v=a':=by simp only[Act.put,pB,pC,pD];rfl):gJ P Inv ws ops Q k c (o::os) (v::vs) a:=Ac hk hn hw h (by rw[ha];exact hr)
theorem cW(h:∀W,Inv c W->nY P o a W v (Inv (c+1)))(hr:gJ P Inv ws ops Q (k+1) (c+1) os vs a')(hk:ws[c]? =some k:=by decide)(hw:Region.wanted o (yielded ops a.tmps)=true:=by rfl)(ha:a.put o.dst v=a':=by simp only[Act.put,pB,pC,pD];rfl):gJ P Inv ws ops Q k c (o::os) (v::vs) a:=Cb hk hw h (by rw[ha];exact hr)
end
def numOf(l:List UInt8):Nat:=l.foldl (λx c=>x*256+c.toNat) 0
theorem Dn(l:List UInt8)(c:UInt8):numOf (l++[c])=numOf l*256+c.toNat:=by simp[numOf]
theorem Dp:∀(l:List UInt8) (x:Nat),l.foldl (λx c=>x*256+c.toNat) x<(x+1)*256^l.length
 |[],x=>by simp
 |c::l,x=>by
  have h:=Dp l (x*256+c.toNat);have hc:=c.toNat_lt;rw[List.foldl_cons,List.length_cons,Nat.pow_succ];refine Nat.lt_of_lt_of_le h ?_;rw[Nat.mul_comm (256^l.length) 256,<- Nat.mul_assoc];exact Nat.mul_le_mul_right _ oM
theorem vW(l:List UInt8):numOf l<256^l.length:=by
 have:=Dp l 0;simpa[numOf]using this
theorem ML{x c:Nat}(hx:x<72057594037927936)(hc:c<256):bits .or .u64 ((x:Int)*256) (c:Int)=((x*256+c:Nat):Int):=by
 rw[bits_join .u64 64 dC (λn h0 h1=>by rw[IntKind.wrap_u64];omega) 8 ((x:Int)*256) (c:Int) oM oM oM oM oM oM];omega
structure aA(p:Nat->Prop)(w w':World):Prop where
 os:w'.os=w.os
 tape:w'.tape=w.tape
 output:w'.output=w.output
 size:w.heap.size<=w'.heap.size
 block:∀k,k<w.heap.size->¬p k->w'.heap[k]? =w.heap[k]?
theorem aA.refl(p:Nat->Prop)(w:World):aA p w w:=⟨rfl,rfl,rfl,Nat.le_refl _,λ_ _ _=>rfl⟩
theorem aA.set{p:Nat->Prop}{w w':World}(h:aA p w w')(q i:Nat)(v:Value)(hq:p q):aA p w (w'.setCell ⟨q,i,none⟩ v):=
 ⟨h.os,h.tape,h.output,by simpa using h.size,λk hk hne=>(Below.heap_setCell w' ⟨q,i,none⟩ v k (λe=>hne (by cases e;exact hq))).trans (h.block k hk hne)⟩
theorem aA.ext{p:Nat->Prop}{w w' w'':World}(h:aA p w w')(hb:Below w'.heap.size w' w''):aA p w w'':=
 ⟨hb.os.trans h.os,hb.tape.trans h.tape,hb.output.trans h.output,Nat.le_trans h.size hb.size,λk hk hne=>(hb.block k (Nat.lt_of_lt_of_le hk h.size)).trans (h.block k hk hne)⟩
theorem aA.of_below{p:Nat->Prop}{w w':World}(h:Below w.heap.size w w'):aA p w w':=(aA.refl p w).ext h
theorem aA.below{p:Nat->Prop}{w w':World}{n:Nat}(h:aA p w w')(hn:n<=w.heap.size)(hp:∀k,p k->n<=k):Below n w w':=
 ⟨h.os,h.tape,h.output,h.size,λk hk=>h.block k oM λhpk=>by have:=hp k hpk;omega⟩
theorem Blk.aQ{p:Nat->Prop}{W W':World}{q:Nat}{cs:List Value}{t:TypeId}(h:Blk W q cs t)(k:aA p W W')(hne:¬p q):Blk W' q cs t:=(k.block q h.lt hne).trans h
end Go.Dav
namespace Go.Proofs.YtenmnhnlcnmloaaGreat
open Go.RowKit Go.Dav
attribute [local go_sem] Gives dG ite_val ay
theorem Cc(N:aT)(ia ka:Option Addr)(il ic kl kc:Nat)(S:Nat->Prop)(w:World)(hN:bM w S ia il ic ka kl kc N)(hok:bI N=false):
  Calls Tryz.prog 108 #[.agg #[.bool N.leaf, .slice ia il ic, .slice ka kl kc]] w (qA w N):=by
 have hb0:Below w.heap.size w (w.alloc (.cells #[.bool N.leaf, .slice ia il ic, .slice ka kl kc] 67)):=bW;have hN0:=hN.ext hb0;have hc:=qx N ia ka il ic kl kc S _ hN0;rw[jT hok]at hc;have HC:=Hd hc;have HOK:=Hd hok;clear hc hN hN0 hok hb0;go_enter Tryz.func108,Tryz.ntmps108;go_wp2_with fail;(with_reducible refine HC.o.mono ?_);rintro e w1 ⟨rfl,hb1⟩
 go_wp2;go_ret2
 exact⟨none,0,0,by rw[jT HOK.o];rfl,by rw[HOK.o];exact au.nil_,(by have hz:=hb1;exact bV)⟩
theorem Ad(N:aT)(ia ka:Option Addr)(il ic kl kc:Nat)(S:Nat->Prop)(w:World)(hN:bM w S ia il ic ka kl kc N)(hS:∀b,S b->b<w.heap.size)(hok:bI N=true):
  Calls Tryz.prog 108 #[.agg #[.bool N.leaf, .slice ia il ic, .slice ka kl kc]] w (qA w N):=by
 have hb0:Below w.heap.size w (w.alloc (.cells #[.bool N.leaf, .slice ia il ic, .slice ka kl kc] 67)):=bW;have hN0:=hN.ext hb0;have hc:=qx N ia ka il ic kl kc S _ hN0;rw[oI hok]at hc;have hq0:=Blk.new w [.bool N.leaf, .slice ia il ic, .slice ka kl kc] 67;obtain⟨h1,_,_,h4⟩:=fQ hok;have h6:=(iW h1).2.2;have HC:=Hd hc;have HOK:=Hd hok;have HN0:=Hd hN0;have HQ0:=Hd hq0;have H6:=Hd h6;have H4:=Hd h4;have HS:=Hd hS;have HB0:=Hd hb0;obtain⟨f,hf⟩:∃f,N.leaf=f:=⟨_,rfl⟩;have HF:=Hd hf;rw[hf]at HC HQ0 HN0 HB0;rw[hf];clear hc hN hN0 hok hq0 h1 h4 h6 hS hb0 hf;go_enter Tryz.func108,Tryz.ntmps108;go_wp2_with fail;(with_reducible refine HC.o.mono ?_);rintro e w1 ⟨rfl,hb1⟩
 have hq1:=(HQ0.o.ext hb1).cells;have ha1:=(HQ0.o.ext hb1).lt;have HQ1:=Hd (HQ0.o.ext hb1);have hp:=sV N ia ka il ic kl kc S w1 (HN0.o.ext hb1) H6.o;rw[HF.o]at hp;have HP:=Hd hp;have HB1:=Hd (HB0.o.trans (hb1.mono (by simp)));clear hp hb1;go_wp2_with fail;(with_reducible refine HP.o.mono ?_);rintro e w2 ⟨pa,pn,pc,rfl,hPS,hb2⟩
 have hpl:=hPS.hlen;have hp6:(pn:Int)<=6:=by have:=H6.o;omega
 have Yg:pn<=6:=oM;have ZG:=Hd Yg;have hq2:=(HQ1.o.ext hb2).cells;have hlt2:=(HQ1.o.ext hb2).lt;have HPS:=Hd hPS;have HPL:=Hd hpl;have HB2:=Hd (HB1.o.trans (hb2.mono (by have:=HB1.o.size;omega)));have hs2:=hb2.size;have hs1:=HB1.o.size;clear hPS hpl hb2 hq1 Yg;cases f with
 |true=>
  go_wp2_with fail;have hcs:u8s (nJ N)=[.int .u8 1, .int .u8 (pn:Int)]:=by
   unfold nJ;rw[HF.o,HPL.o];simp[u8s];have:=ZG.o;omega
  have HCS:=Hd hcs;obtain⟨w3,hw3⟩:∃w3,w2.alloc (.cells #[.int .u8 1, .int .u8 (pn:Int)] 5)=w3:=⟨_,rfl⟩;have hB3:Blk w3 w2.heap.size [.int .u8 1, .int .u8 (pn:Int)] 5:=by rw[<- hw3];exact Blk.new _ _ _
  have HR0:=Hd (show w3.ownsRow w2.heap.size 5 1 (.slice (some ⟨w2.heap.size,0,none⟩) 2 2) (nJ N).length (u8s (nJ N)) by
   have h:=Pm hB3 (by simp[maxLen]) (Nat.le_refl _);rw[hcs,show(nJ N).length=2 from rfl];exact h)
  have HBa:=Hd (show Below w2.heap.size w2 w3 by rw[<- hw3];exact(Below.refl _ _).alloc (Nat.le_refl _) _);have HS3:=Hd (show w3.heap.size=w2.heap.size+1 by rw[<- hw3];simp);clear hcs hB3;rw[hw3];clear hw3;go_loopg [30,7] pn (λg ix vx wr=>∃k:Nat,k<=pn/\g=pn-k/\ix= .int .i64 k/\wr.ownsRow w2.heap.size 5 1 vx (lJ N k).length (u8s (lJ N k))/\Grew w2.heap.size 5 w3 wr)
  case atStart=>
   refine⟨0,Nat.zero_le _,rfl,rfl,?_,Grew.refl _ _ _⟩;have h:=HR0.o;have e:lJ N 0=nJ N:=by unfold lJ;simp
   rw[e];exact h
  case round=>
   obtain⟨k,hk,rfl,rfl,hown,hgr⟩:=hrel;have HO:=Hd hown;have HG:=Hd hgr;have hsw:=hgr.size;have HPW:=Hd (HPS.o.same (W':=wr) (by have:=HS3.o;omega) (λb h1 h2=>(HG.o.block b (by have:=HS3.o;omega) (.inl h2)).trans (HBa.o.block b h2)) (λb h1 h2=>(HG.o.block b (by have:=HS3.o;omega) (.inl h2)).trans (HBa.o.block b h2)));clear hown hgr;by_cases hkn:k<pn
   .obtain⟨x,hx⟩:∃x,(partsOf N)[k]? =some x:=⟨_,List.getElem?_eq_getElem (by have:=HPL.o;omega)⟩;obtain⟨b,o,u,rfl,hb,_,hcell,hu⟩:=HPW.o.hat k x hx;have hml:=λW=>vJ x u W;have hel:=λargs W=>zU x args W;have HX:=Hd hx;have HU:=Hd hu;have HKN:=Hd hkn;have hkn':(k:Int)<(pn:Int):=oM;have EH:=yu w2.heap.size S x u u7 (lJ N k) wr HU.o (λb h=>by have:=HS.o b h;omega) HO.o (by have:=HS3.o;omega) (by have:=tC HOK.o k;omega) (H4.o x (List.mem_of_getElem? HX.o));rw[<- zZ HX.o]at EH;have HL:=Hd EH;clear hx hu hkn hk EH;go_wp2_with fail;(with_reducible refine HL.o.mono ?_);rintro e w4 ⟨v4,rfl,ho4,hg4⟩
    have HO4:=Hd ho4;have HG4:=Hd hg4;clear ho4 hg4;go_wp2_with fail;go_roundg (pn-(k+1))
    case measure=>have:=HKN.o;omega
    case rel=>exact⟨k+1,HKN.o,rfl,by go_num,HO4.o,HG.o.trans HG4.o⟩
   .obtain rfl:k=pn:=oM;have hk3:¬(k:Int)<(k:Int):=oM;have hown:=HO.o;rw[<- HPL.o,tu]at hown;obtain⟨a',c',rfl,hB⟩:=fM hown (by have:=tC HOK.o (partsOf N).length;rw[tu]at this;omega);have HBB:=Hd hB;clear hkn hown hB;go_wp2;go_ret2
    refine⟨a',_,c',by rw[oI HOK.o];rfl,by rw[if_pos HOK.o];exact HBB.o.mono λb h=>oM,?_⟩;exact HB2.o.trans ((HBa.o.trans (HG.o.below (by have:=HS3.o;omega))).mono oM)
 |false=>
  go_wp2_with fail;have hcs:u8s (nJ N)=[.int .u8 2, .int .u8 (pn:Int)]:=by
   unfold nJ;rw[HF.o,HPL.o];simp[u8s];have:=ZG.o;omega
  have HCS:=Hd hcs;obtain⟨w3,hw3⟩:∃w3,w2.alloc (.cells #[.int .u8 2, .int .u8 (pn:Int)] 5)=w3:=⟨_,rfl⟩;have hB3:Blk w3 w2.heap.size [.int .u8 2, .int .u8 (pn:Int)] 5:=by rw[<- hw3];exact Blk.new _ _ _
  have HR0:=Hd (show w3.ownsRow w2.heap.size 5 1 (.slice (some ⟨w2.heap.size,0,none⟩) 2 2) (nJ N).length (u8s (nJ N)) by
   have h:=Pm hB3 (by simp[maxLen]) (Nat.le_refl _);rw[hcs,show(nJ N).length=2 from rfl];exact h)
  have HBa:=Hd (show Below w2.heap.size w2 w3 by rw[<- hw3];exact(Below.refl _ _).alloc (Nat.le_refl _) _);have HS3:=Hd (show w3.heap.size=w2.heap.size+1 by rw[<- hw3];simp);clear hcs hB3;rw[hw3];clear hw3;go_loopg [30,7] pn (λg ix vx wr=>∃k:Nat,k<=pn/\g=pn-k/\ix= .int .i64 k/\wr.ownsRow w2.heap.size 5 1 vx (lJ N k).length (u8s (lJ N k))/\Grew w2.heap.size 5 w3 wr)
  case atStart=>
   refine⟨0,Nat.zero_le _,rfl,rfl,?_,Grew.refl _ _ _⟩;have h:=HR0.o;have e:lJ N 0=nJ N:=by unfold lJ;simp
   rw[e];exact h
  case round=>
   obtain⟨k,hk,rfl,rfl,hown,hgr⟩:=hrel;have HO:=Hd hown;have HG:=Hd hgr;have hsw:=hgr.size;have HPW:=Hd (HPS.o.same (W':=wr) (by have:=HS3.o;omega) (λb h1 h2=>(HG.o.block b (by have:=HS3.o;omega) (.inl h2)).trans (HBa.o.block b h2)) (λb h1 h2=>(HG.o.block b (by have:=HS3.o;omega) (.inl h2)).trans (HBa.o.block b h2)));clear hown hgr;by_cases hkn:k<pn
   .obtain⟨x,hx⟩:∃x,(partsOf N)[k]? =some x:=⟨_,List.getElem?_eq_getElem (by have:=HPL.o;omega)⟩;obtain⟨b,o,u,rfl,hb,_,hcell,hu⟩:=HPW.o.hat k x hx;have hml:=λW=>vJ x u W;have hel:=λargs W=>zU x args W;have HX:=Hd hx;have HU:=Hd hu;have HKN:=Hd hkn;have hkn':(k:Int)<(pn:Int):=oM;have EH:=yu w2.heap.size S x u u7 (lJ N k) wr HU.o (λb h=>by have:=HS.o b h;omega) HO.o (by have:=HS3.o;omega) (by have:=tC HOK.o k;omega) (H4.o x (List.mem_of_getElem? HX.o));rw[<- zZ HX.o]at EH;have HL:=Hd EH;clear hx hu hkn hk EH;go_wp2_with fail;(with_reducible refine HL.o.mono ?_);rintro e w4 ⟨v4,rfl,ho4,hg4⟩
    have HO4:=Hd ho4;have HG4:=Hd hg4;clear ho4 hg4;go_wp2_with fail;go_roundg (pn-(k+1))
    case measure=>have:=HKN.o;omega
    case rel=>exact⟨k+1,HKN.o,rfl,by go_num,HO4.o,HG.o.trans HG4.o⟩
   .obtain rfl:k=pn:=oM;have hk3:¬(k:Int)<(k:Int):=oM;have hown:=HO.o;rw[<- HPL.o,tu]at hown;obtain⟨a',c',rfl,hB⟩:=fM hown (by have:=tC HOK.o (partsOf N).length;rw[tu]at this;omega);have HBB:=Hd hB;clear hkn hown hB;go_wp2;go_ret2
    refine⟨a',_,c',by rw[oI HOK.o];rfl,by rw[if_pos HOK.o];exact HBB.o.mono λb h=>oM,?_⟩;exact HB2.o.trans ((HBa.o.trans (HG.o.below (by have:=HS3.o;omega))).mono oM)
theorem qB(N:aT)(ia ka:Option Addr)(il ic kl kc:Nat)(S:Nat->Prop)(w:World)(hN:bM w S ia il ic ka kl kc N)(hS:∀b,S b->b<w.heap.size):
  Calls Tryz.prog 108 #[.agg #[.bool N.leaf, .slice ia il ic, .slice ka kl kc]] w (qA w N):=by
 cases hok:bI N with
 |true=>exact Ad N ia ka il ic kl kc S w hN hS hok
 |false=>exact Cc N ia ka il ic kl kc S w hN hok
end Go.Proofs.YtenmnhnlcnmloaaGreat

/- Part of a proof of a law of the layer of trees. -/
import Derived.Test.YtenmnhnlcnmloaaGreatQa28
import Derived.Test.YtenmnhnlcnmloaaGreatQa36
import Derived.Test.YtenmnhnlcnmloaaGreatQa23
import Derived.Test.YtenmnhnlcnmloaaGreatQa01
set_option linter.unusedVariables false
set_option linter.unusedSimpArgs false
set_option maxHeartbeats 8000000
set_option maxRecDepth 8000
namespace Go.Dav
open Go Go.RowKit
theorem aS.append{W:World}{S:Nat->Prop}{cs ds:List Value}{L M:List aP}(h:aS W S cs L)(g:aS W S ds M):aS W S (cs++ds) (L++M):=by
 refine⟨by simp[h.1,g.1];omega,λk x hx=>?_⟩;have hl:=h.1;by_cases hk:k<L.length
 .rw[List.getElem?_append_left hk]at hx;obtain⟨ka,kl,kc,va,vl,vc,c0,c1,c2,c3,g1,g2,g3⟩:=h.2 k x hx;exact⟨ka,kl,kc,va,vl,vc,by rw[List.getElem?_append_left oM];exact c0,by rw[List.getElem?_append_left oM];exact c1,by rw[List.getElem?_append_left oM];exact c2,by rw[List.getElem?_append_left oM];exact c3,g1,g2,g3⟩
 .obtain⟨d,rfl⟩:∃d,k=L.length+d:=⟨k-L.length,oM⟩;rw[List.getElem?_append_right oM,show L.length+d-L.length=d by omega]at hx;obtain⟨ka,kl,kc,va,vl,vc,c0,c1,c2,c3,g1,g2,g3⟩:=g.2 d x hx;refine⟨ka,kl,kc,va,vl,vc,?_,?_,?_,?_,g1,g2,g3⟩
  .rw[List.getElem?_append_right oM,show(L.length+d)*4-cs.length=d*4 by omega];exact c0
  .rw[List.getElem?_append_right oM,show(L.length+d)*4+1-cs.length=d*4+1 by omega];exact c1
  .rw[List.getElem?_append_right oM,show(L.length+d)*4+2-cs.length=d*4+2 by omega];exact c2
  .rw[List.getElem?_append_right oM,show(L.length+d)*4+3-cs.length=d*4+3 by omega];exact c3
theorem aS.mono{W:World}{S T:Nat->Prop}{cs:List Value}{L:List aP}(h:aS W S cs L)(hs:∀b,S b->T b):aS W T cs L:=
 ⟨h.1,λk x hx=>by obtain⟨ka,kl,kc,va,vl,vc,c0,c1,c2,c3,h1,h2,h3⟩:=h.2 k x hx;exact⟨ka,kl,kc,va,vl,vc,c0,c1,c2,c3,h1.mono hs,h2.mono hs,h3⟩⟩
theorem aS.take{W:World}{S:Nat->Prop}{cs:List Value}{L:List aP}(h:aS W S cs L)(n:Nat):aS W S (cs.take (n*4)) (L.take n):=by
 have hl:=h.1;refine⟨by rw[List.length_take,List.length_take];omega,λk x hx=>?_⟩;rw[List.getElem?_take]at hx;split at hx
 .rename_i hk;obtain⟨ka,kl,kc,va,vl,vc,c0,c1,c2,c3,g1,g2,g3⟩:=h.2 k x hx;exact⟨ka,kl,kc,va,vl,vc,by rw[List.getElem?_take,if_pos oM];exact c0,by rw[List.getElem?_take,if_pos oM];exact c1,by rw[List.getElem?_take,if_pos oM];exact c2,by rw[List.getElem?_take,if_pos oM];exact c3,g1,g2,g3⟩
 .cases hx
theorem aS.drop{W:World}{S:Nat->Prop}{cs:List Value}{L:List aP}(h:aS W S cs L)(n:Nat):aS W S (cs.drop (n*4)) (L.drop n):=by
 have hl:=h.1;refine⟨by rw[List.length_drop,List.length_drop];omega,λk x hx=>?_⟩;rw[List.getElem?_drop]at hx;obtain⟨ka,kl,kc,va,vl,vc,c0,c1,c2,c3,g1,g2,g3⟩:=h.2 (n+k) x hx;rw[Nat.add_mul]at c0 c1 c2 c3;exact⟨ka,kl,kc,va,vl,vc,by rw[List.getElem?_drop];exact c0,by rw[List.getElem?_drop,<- Nat.add_assoc];exact c1,by rw[List.getElem?_drop,<- Nat.add_assoc];exact c2,by rw[List.getElem?_drop,<- Nat.add_assoc];exact c3,g1,g2,g3⟩
theorem Bf{W:World}{S:Nat->Prop}{ka va:Option Addr}{kl kc vl vc:Nat}{x:aP}(h1:au W S ka kl kc x.key)(h2:au W S va vl vc x.value)(h3:eY x.n):aS W S [.slice ka kl kc, .slice va vl vc, .bool x.int, .int .i64 x.n] [x]:=aS.nil.snoc h1 h2 h3
section
variable{P:Program}{W:World}{ops:Array Oper}{rest:List Oper}{o:Oper}{a:Act}{Q:Exit->Act->World->Prop}
theorem dP(hgd:o.guard=none)(s x:Operand)(t:TypeId)(ho:o.op= .call { callee:= .builtin .append,args:= #[s,x],argTypes:= #[t,t]}){e:TypeId}{i:TypeInfo}{z:Value}{size bytes:Nat}(ht:P.underlying t=some (.slice e))(hi:P.info? e=some i)(hz:i.zero=some z)(hsize:i.size=size)(hby:i.bytes=bytes)(hzs:z.cells.size=size)(hsz:0<size)
  (base n:Nat) (v:Value) (xs:List Value) (hs:a.eval s=v) (hown:W.ownsRow base e size v n xs) (ax:Option Addr) (m c:Nat) (ys:List Value) (hx:a.eval x= .slice ax m c) (hat:∀j u,ys[j]? =some u->∃b o,ax=some ⟨b,o,none⟩/\W.cell? ⟨b,o+j,none⟩=some u) (hl:ys.length=m*size) (h1:∀u∈ys,u.oneCell'=true) (hnone:ax=none->c=0) (hmc:m<=c) (h63:n+m<=maxLen) (hbytes:(n+m)*bytes<=140737488355328) (hbase:base<=W.heap.size)
  (h:∀v' w',w'.ownsRow base e size v' (n+m) (xs++ys)->W.grownBy w' v.ownBlock->wpList P ops Q rest (a.put o.dst v') w'):wpList P ops Q (o::rest) a W:=by
 refine wpList_plain hgd λK hK=>?_;have key:∃v' w',(Builtin.append_ #[t,t] o.type #[v, .slice ax m c]).run P W= .ok v' w'/\w'.ownsRow base e size v' (n+m) (xs++ys)/\W.grownBy w' v.ownBlock:=by
  cases ax with
  |none=>
   have hc:=hnone rfl;have hm:m=0:=oM;subst hc;subst hm;have hy:ys=[]:=List.length_eq_zero_iff.1 oM;subst hy;exact⟨v,W,run_append_owned_none W base t o.type e i size ht hi v n xs hown,by simpa using hown,World.grownBy.refl _ _⟩
  |some ad=>
   obtain⟨v',w',r1,r2,r3,_⟩:=run_append_own_at (P:=P) W base t o.type e i z size bytes ht hi hz hsize hby hzs hsz v n xs hown ad m c ys hl (λj u hu=>by obtain⟨b,o,h2,h3⟩:=hat j u hu;cases h2;rw[Addr.add_mid];exact h3) h1 h63 hbytes hbase;exact⟨v',w',r1,r2,r3⟩
 obtain⟨v',w',hr,h2,h3⟩:=key;unfold Oper.wp execOp;simp only[ho,resolve,invoke,builtin,Sem.run_bind,Sem.run_pure,Result.andThen_ok,List.map_toArray,List.map_cons,List.map_nil,hs,hx,hr];exact hK _ _ (h v' w' h2 h3)
end
theorem D6(W:World)(cs:List Value)(t:TypeId):∀j u,cs[j]? =some u->∃b o,some (⟨W.heap.size,0,none⟩:Addr)=some ⟨b,o,none⟩/\(W.alloc (.cells cs.toArray t)).cell? ⟨b,o+j,none⟩=some u:=λj u hu=>⟨W.heap.size,0,rfl,by rw[Nat.zero_add];exact(Blk.new W cs t).cell j hu⟩
theorem D7{O:List aP}{x:aP}(h:fD x=false):mV O x=O:=by unfold mV;rw[if_pos (.inl h)]
theorem NV{O:List aP}{x y:aP}{A:Nat}(hA:(O.takeWhile λy=>bH y.key x.key).length=A)(hy:O[A]? =some y)(h:y.key=x.key):mV O x=O:=by unfold mV;rw[hA,if_pos (.inr (by rw[hy,Option.map_some,h]))]
theorem IL{O:List aP}{x:aP}{A:Nat}(hA:(O.takeWhile λy=>bH y.key x.key).length=A)(h:fD x=true)(h2:∀y,O[A]? =some y->y.key≠x.key):mV O x=O.take A++x::O.drop A:=by
 unfold mV;rw[hA,if_neg];rintro(h3|h3)
 .rw[h]at h3;cases h3
 .cases hy:O[A]? with
  |none=>rw[hy]at h3;cases h3
  |some y=>rw[hy,Option.map_some]at h3;exact h2 y hy (Option.some.inj h3)
theorem QA{α:Type}{l:List α}{i:Nat}{c:α}(h:l[i]? =some c):l.drop i=c::l.drop (i+1):=by
 obtain⟨hl,hc⟩:=List.getElem?_eq_some_iff.1 h;rw[List.drop_eq_getElem_cons hl,hc]
theorem yJ{α:Type}{p:α->Bool}:∀ {O:List α} {k:Nat},k<(O.takeWhile p).length->∃y,O[k]? =some y/\p y=true
 |[],_,h=>by simp at h
 |x::O,k,h=>by
  rw[List.takeWhile_cons]at h;split at h
  .rename_i hx;cases k with
   |zero=>exact⟨x,rfl,hx⟩
   |succ k=>exact yJ (O:=O) (k:=k) (by simpa using h)
  .simp at h
theorem yK{α:Type}{p:α->Bool}:∀ {O:List α} {y:α},O[(O.takeWhile p).length]? =some y->p y=false
 |[],_,h=>by simp at h
 |x::O,y,h=>by
  rw[List.takeWhile_cons]at h;split at h
  .exact yK (O:=O) (by simpa using h)
  .rename_i hx;obtain rfl:x=y:=by simpa using h
   simpa using hx
end Go.Dav
namespace Go.Proofs.YtenmnhnlcnmloaaGreat
open Go.RowKit Go.Dav
attribute [local go_sem] Gives ite_val ay
theorem Kv(l:List aP)(la:Option Addr)(n c:Nat)(w:World)(T:Nat->Prop)(hl:aY w T la n c l)(hT:∀b,T b->b<w.heap.size)(hn:n<=1000):
  Calls Tryz.prog 49 #[.slice la n c] w λe w'=>∃a k c',e= .returned (.slice a k c')/\aY w' (Or T w) a k c' (Fa l)/\Below w.heap.size w w':=by
 obtain⟨R,hR⟩:∃R,Fa l=R:=⟨_,rfl⟩;rw[hR];have HR:=Hd (show(l.drop 0).foldl mV []=R from hR);have HL:=Hd hl;have HT:=Hd hT;have HLL:=Hd hl.hlen;have HN:=Hd hn;obtain⟨i0,hi0,hz0,hz1,hz2⟩:=info_parts jm;have HI:=Hd (And.intro hi0 (And.intro hz0 (And.intro hz1 hz2)));clear hR hl hT hi0 hz0 hz1 hz2;go_enter Tryz.func49,Tryz.ntmps49;go_wp2_with fail;go_loopw [3,4] (λov iv wr=>∃(k on oc:Nat) (oa:Option Addr) (O:List aP),ov= .slice oa on oc/\iv= .int .i64 (k:Int)/\k<=n/\on<=k/\aY wr (Or T w) oa on oc O/\(l.drop k).foldl mV O=R/\Below w.heap.size w wr) (λ_ iv _=>n-(intOf iv).toNat)
 case atStart=>exact⟨0,0,0,none,[],rfl,rfl,Nat.zero_le _,Nat.le_refl _,⟨rfl,Nat.le_refl _,by unfold maxLen;omega,oM,λk x hx=>by simp at hx,λ_=>rfl⟩,HR.o,Below.refl _ _⟩
 case round=>
  obtain⟨k,on,oc,oa,O,rfl,rfl,hk,hok,hO,hRR,hbel⟩:=hrel;rename World=>w1
  by_cases hlt:k<n
  .obtain⟨x,hx⟩:∃x,l[k]? =some x:=⟨_,List.getElem?_eq_getElem (by have:=HLL.o;omega)⟩;have aaf:(l.drop (k+1)).foldl mV (mV O x)=R:=by rw[<- hRR,QA hx];rfl
   obtain⟨A,hA⟩:∃A,(O.takeWhile λy=>bH y.key x.key).length=A:=⟨_,rfl⟩;have acX:A<=on:=by rw[<- hA,<- hO.hlen];exact(List.takeWhile_sublist _).length_le
   obtain⟨bx,ox,xa,xl,xc,va,vl,vc,rfl,hbx,hTx,d0,d1,d2,d3,h4,h5,h6⟩:=(HL.o.ext1 hbel).hat k x hx;obtain⟨xi,hxi⟩:∃z,x.int=z:=⟨_,rfl⟩;obtain⟨xn,hxn⟩:∃z,x.n=z:=⟨_,rfl⟩;obtain⟨q,hq⟩:∃q,fD x=q:=⟨_,rfl⟩;have QB:=Hd (λW=>by have z:=pV x xa va xl xc vl vc W h4.at_.hlen h5.at_.hlen;rw[hxi,hxn,hq]at z;exact z);have HQ:=Hd hq;clear hq;rw[hxi]at d2;rw[hxn]at d3;have HX:=Hd hx;have HA:=Hd hA;have HO:=Hd hO;have HB:=Hd hbel;have H4:=Hd h4;have H5:=Hd h5;have H6:=Hd h6;have NW:=Hd aaf;have HOK:=Hd hok;have HXV:=Hd (And.intro hxi hxn);have hlt':(k:Int)<(n:Int):=oM;have HLT:=Hd hlt;have hk0:¬(k:Int)<0:=oM;have hok':on<=1000:=oM;clear hx hA hO hbel h4 h5 h6 hRR aaf hok hTx hxi hxn hk hn;go_wp2_with fail;go_loopw [5] (λav wv=>∃at_:Nat,av= .int .i64 (at_:Int)/\at_<=A/\Below w1.heap.size w1 wv) (λav _=>A-(intOf av).toNat)
   case atStart=>exact⟨0,rfl,Nat.zero_le _,Below.refl _ _⟩
   case round=>
    obtain⟨at_,rfl,hat,hb⟩:=hrel;have hbl:=hb;by_cases hlA:at_<A
    .obtain⟨y,hy,hyp⟩:=yJ (p:=λy=>bH y.key x.key) (O:=O) (k:=at_) (by have:=HA.o;omega);obtain⟨by_,oy,ya,yl,yc,za,zl,zc,rfl,hby,hTy,e0,e1,e2,e3,g4,g5,g6⟩:=(HO.o.ext1 hb).hat at_ y hy;have HYK:=Hd g4;have nS:=Hd (λW (hE:Below wr.heap.size wr W)=>by have q:=kJ _ _ _ _ _ _ _ _ W (g4.at_.ext hE) (((H4.o.ext hb).at_).ext hE);rw[hyp]at q;exact q);have HY:=Hd hy;have HB3:=Hd hb;have hdx:=((after hb).1 bx (ox+k*4) hbx).trans d0;have YV:=Nat.lt_of_lt_of_le hbx hb.size;have hat':(at_:Int)<(on:Int):=by have:=(List.getElem?_eq_some_iff.1 hy).1;rw[HO.o.hlen]at this;omega
     have abP:¬(at_:Int)<0:=oM;clear g4 g5 g6 hTy hy hb e1 e2 e3 hyp hbl;go_wp2_with fail;refine' ah [.inl _, .inl _, .inl _, .inl _, .inl _, .inl _, .inl _, .inl _, .inl _, .inl _, .inl _, .inl _, .inl _, .inl _, .inl _, .inl _, .inl _] kR kR ?dN
     case dN=>
      iterate 9 refine wD ?_
      refine wE ?_;iterate 4 refine wD ?_
      refine wE ?_;refine wG (λW hE hN=>by go_simp;refine⟨Below.refl _ _,?_⟩;refine(nS.o W hE).mono ?_;rintro e w' ⟨rfl,hb⟩;refine⟨?_,hb⟩;rfl) ?_;refine wD ?_;refine aj λW4 hE4 hG4=>?_;have L9:=hE4.cF;have Mc:=hE4.fF;have HB4:=Hd (HB3.o.trans (hE4.mono HB3.o.size));have X0:=Hd (HYK.o.ext hE4);have ee:=((after hE4).1 by_ (oy+at_*4) hby).trans e0;have abQ:=Nat.lt_of_lt_of_le hby hE4.size;clear hE4 hG4 hdx YV e0 hby;go_wp2_with fail;go_roundw
      case rel=>exact⟨at_+1,by go_num,hlA,HB4.o⟩
      case measure=>simp[intOf];omega
    .obtain rfl:at_=A:=oM;by_cases hAo:at_<on
     .obtain⟨y,hy⟩:∃y,O[at_]? =some y:=⟨_,List.getElem?_eq_getElem (by rw[HO.o.hlen];exact hAo)⟩;have hyp:bH y.key x.key=false:=yK (p:=λy=>bH y.key x.key) (O:=O) (y:=y) (by rw[HA.o];exact hy);obtain⟨by_,oy,ya,yl,yc,za,zl,zc,rfl,hby,hTy,e0,e1,e2,e3,g4,g5,g6⟩:=(HO.o.ext1 hb).hat at_ y hy;have HYK:=Hd g4;have nS:=Hd (λW (hE:Below wr.heap.size wr W)=>by have q:=kJ _ _ _ _ _ _ _ _ W (g4.at_.ext hE) (((H4.o.ext hb).at_).ext hE);rw[hyp]at q;exact q);have HY:=Hd hy;have HB3:=Hd hb;have hdx:=((after hb).1 bx (ox+k*4) hbx).trans d0;have YV:=Nat.lt_of_lt_of_le hbx hb.size;have hat':(at_:Int)<(on:Int):=by have:=(List.getElem?_eq_some_iff.1 hy).1;rw[HO.o.hlen]at this;omega
      have abP:¬(at_:Int)<0:=oM;clear g4 g5 g6 hTy hy hb e1 e2 e3 hyp hbl;go_wp2_with fail;refine' ah [.inl _, .inl _, .inl _, .inl _, .inl _, .inl _, .inl _, .inl _, .inl _, .inl _, .inl _, .inl _, .inl _, .inl _, .inl _, .inl _, .inl _] kR kR ?fZ
      case fZ=>
       iterate 9 refine wD ?_
       refine wE ?_;iterate 4 refine wD ?_
       refine wE ?_;refine wG (λW hE hN=>by go_simp;refine⟨Below.refl _ _,?_⟩;refine(nS.o W hE).mono ?_;rintro e w' ⟨rfl,hb⟩;refine⟨?_,hb⟩;rfl) ?_;refine wD ?_;refine aj λW4 hE4 hG4=>?_;have L9:=hE4.cF;have Mc:=hE4.fF;have HB4:=Hd (HB3.o.trans (hE4.mono HB3.o.size));have X0:=Hd (HYK.o.ext hE4);have ee:=((after hE4).1 by_ (oy+at_*4) hby).trans e0;have abQ:=Nat.lt_of_lt_of_le hby hE4.size;clear hE4 hG4 hdx YV e0 hby;have aa:=λj=>(after HB4.o).1 bx (ox+k*4+j) hbx;have d0':=((after HB4.o).1 bx (ox+k*4) hbx).trans d0;have d1':=(aa 1).trans d1;have d2':=(aa 2).trans d2;have d3':=(aa 3).trans d3;have YW:=Nat.lt_of_lt_of_le hbx HB4.o.size;clear aa;go_wp2_with fail;cases q with
       |false=>
        refine' ah [(Sum.inl _:Piece),(Sum.inl _:Piece),(Sum.inl _:Piece),(Sum.inl _:Piece),(Sum.inl _:Piece),(Sum.inl _:Piece),(Sum.inl _:Piece),(Sum.inl undef:Piece),(Sum.inl undef:Piece),(Sum.inl undef:Piece),(Sum.inl undef:Piece),(Sum.inl undef:Piece),(Sum.inl undef:Piece),(Sum.inl undef:Piece),(Sum.inl undef:Piece),(Sum.inl undef:Piece),(Sum.inl undef:Piece),(Sum.inl undef:Piece),(Sum.inl undef:Piece),(Sum.inl undef:Piece),(Sum.inl undef:Piece),(Sum.inl undef:Piece),(Sum.inl undef:Piece),(Sum.inl undef:Piece),(Sum.inl undef:Piece),(Sum.inl undef:Piece),(Sum.inl _:Piece)] kR kR ?iT
        case iT=>
         iterate 3 refine wD ?_
         refine wE ?_;refine wG (λW hE hN=>by go_simp;refine⟨Below.refl _ _,?_⟩;refine(QB.o W).mono ?_;rintro e w' ⟨rfl,hb⟩;refine⟨?_,hb⟩;rfl) ?_;iterate 2 refine wD ?_
         iterate 19 refine wS ?_
         refine wD ?_;refine aj λW5 hE5 hG5=>?_;have UN:=hE5.cF;have UO:=hE5.fF;have HB5:=Hd (HB4.o.trans (hE5.mono HB4.o.size));clear hE5 hG5;have hnn:=HN.o;go_wp2_with fail;go_roundw
         case rel=>
          have hrs:mV O x=O:=D7 HQ.o;refine⟨k+1,on,oc,_,O,rfl,by go_num,HLT.o,by have:=HOK.o;omega,HO.o.ext1 HB5.o,?_,HB.o.trans (HB5.o.mono HB.o.size)⟩;rw[<- hrs];exact NW.o
         case measure=>simp[intOf];omega
       |true=>
        have k1:=aO X0.o.at_ 22 9 5 Tryz.underlying22 Tryz.underlying5 Tryz.underlying9;obtain⟨p,hp⟩:∃p,decide (y.key=x.key)=p:=⟨_,rfl⟩;have q1:(y.key==x.key)=p:=by rw[gQ,hp]
        have HP:=Hd hp;clear hp;clear k1;cases p with
        |true=>
         refine' ah [(Sum.inl _:Piece),(Sum.inl _:Piece),(Sum.inl _:Piece),(Sum.inl _:Piece),(Sum.inl _:Piece),(Sum.inl _:Piece),(Sum.inl _:Piece),(Sum.inl _:Piece),(Sum.inl _:Piece),(Sum.inl _:Piece),(Sum.inl _:Piece),(Sum.inl _:Piece),(Sum.inl _:Piece),(Sum.inl _:Piece),(Sum.inl _:Piece),(Sum.inl _:Piece),(Sum.inl _:Piece),(Sum.inl _:Piece),(Sum.inl _:Piece),(Sum.inl _:Piece),(Sum.inl _:Piece),(Sum.inl _:Piece),(Sum.inl _:Piece),(Sum.inl _:Piece),(Sum.inl _:Piece),(Sum.inl _:Piece),(Sum.inl _:Piece)] kR kR ?jI
         case jI=>
          iterate 3 refine wD ?_
          refine wE ?_;refine wG (λW hE hN=>by go_simp;refine⟨Below.refl _ _,?_⟩;refine(QB.o W).mono ?_;rintro e w' ⟨rfl,hb⟩;refine⟨?_,hb⟩;rfl) ?_;iterate 11 refine wD ?_
          refine wE ?_;refine wG (λW hE hN=>by have k1:=aO (X0.o.ext hE).at_ 22 9 5 Tryz.underlying22 Tryz.underlying5 Tryz.underlying9;exact gF) ?_;iterate 4 refine wD ?_
          refine wE ?_;refine wG (λW hE hN=>by have k1:=aO ((H4.o.ext HB4.o).ext hE).at_ 22 9 5 Tryz.underlying22 Tryz.underlying5 Tryz.underlying9;exact gF) ?_;iterate 3 refine wD ?_
          refine aj λW5 hE5 hG5=>?_;have UN:=hE5.cF;have UO:=hE5.fF;have HB5:=Hd (HB4.o.trans (hE5.mono HB4.o.size));clear hE5 hG5;have hnn:=HN.o;go_wp2_with fail;go_roundw
          case rel=>
           have hrs:mV O x=O:=NV HA.o HY.o (of_decide_eq_true HP.o);refine⟨k+1,on,oc,_,O,rfl,by go_num,HLT.o,by have:=HOK.o;omega,HO.o.ext1 HB5.o,?_,HB.o.trans (HB5.o.mono HB.o.size)⟩;rw[<- hrs];exact NW.o
          case measure=>simp[intOf];omega
        |false=>
         refine' ah [(Sum.inl _:Piece),(Sum.inl _:Piece),(Sum.inl _:Piece),(Sum.inl _:Piece),(Sum.inl _:Piece),(Sum.inl _:Piece),(Sum.inl _:Piece),(Sum.inl _:Piece),(Sum.inl _:Piece),(Sum.inl _:Piece),(Sum.inl _:Piece),(Sum.inl _:Piece),(Sum.inl _:Piece),(Sum.inl _:Piece),(Sum.inl _:Piece),(Sum.inl _:Piece),(Sum.inl _:Piece),(Sum.inl _:Piece),(Sum.inl _:Piece),(Sum.inl _:Piece),(Sum.inl _:Piece),(Sum.inl _:Piece),(Sum.inl _:Piece),(Sum.inl _:Piece),(Sum.inl _:Piece),(Sum.inl _:Piece),(Sum.inl _:Piece)] kR kR ?main5
         case main5=>
          iterate 3 refine wD ?_
          refine wE ?_;refine wG (λW hE hN=>by go_simp;refine⟨Below.refl _ _,?_⟩;refine(QB.o W).mono ?_;rintro e w' ⟨rfl,hb⟩;refine⟨?_,hb⟩;rfl) ?_;iterate 11 refine wD ?_
          refine wE ?_;refine wG (λW hE hN=>by have k1:=aO (X0.o.ext hE).at_ 22 9 5 Tryz.underlying22 Tryz.underlying5 Tryz.underlying9;exact gF) ?_;iterate 4 refine wD ?_
          refine wE ?_;refine wG (λW hE hN=>by have k1:=aO ((H4.o.ext HB4.o).ext hE).at_ 22 9 5 Tryz.underlying22 Tryz.underlying5 Tryz.underlying9;exact gF) ?_;iterate 3 refine wD ?_
          refine aj λW5 hE5 hG5=>?_;have UN:=hE5.cF;have UO:=hE5.fF;have HB5:=Hd (HB4.o.trans (hE5.mono HB4.o.size));clear hE5 hG5;have VD:=Hd (show mV O x=O.take at_++x::O.drop at_ from IL HA.o HQ.o (λz hz=>by have:=HY.o;rw[hz]at this;cases this;exact of_decide_eq_false HP.o));have hnn:=HN.o;have hoc:=HO.o.hcap;have hac:(at_:Int)<=(oc:Int):=oM;have abR:(at_:Int)<=(on:Int):=oM;obtain⟨cs,hcs,hone,IQ⟩:=vC (HO.o.ext1 HB5.o);have HCS:=Hd hcs;have Rh:=Hd hone;have NY:=Hd IQ;have HCL:=Hd (show cs.length=on*4 by rw[hcs.1,HO.o.hlen]);clear hcs hone IQ;have tok1:=True.intro;have tok2:=True.intro;have YX:=True.intro;obtain⟨hi0,hz0,hz1,hz2⟩:=HI.o;have hb0:=Below.refl W5.heap.size W5;go_wp2_with (at_builtin;first
           |(refine dP rfl (.tmp 59) (.tmp 62) 23 rfl Tryz.underlying23 hi0 hz0 hz1 hz2 rfl dC W5.heap.size 0 _ [] rfl (World.ownsRow_nil _ _ _ _) _ at_ _ (cs.take (at_*4)) rfl (λj u hu=>NY.o j u (by rw[List.getElem?_take]at hu;split at hu;exact hu;cases hu)) (by rw[List.length_take,HCL.o];omega) (λu hu=>Rh.o u (List.mem_of_mem_take hu)) HO.o.hnil oM (by unfold maxLen;omega) oM (Nat.le_refl _) ?_;intro v6 w6 hown6 hgrow6;rw[Nat.zero_add,List.nil_append]at hown6;have hb6:=aV hb0 (Nat.le_refl _) (World.ownsRow_nil W5 W5.heap.size 60 4) (Nat.le_refl _) hgrow6;have HB6:=Hd (HB5.o.trans (hb6.mono HB5.o.size));have Tq:=Hd hb6;have HO6:=Hd hown6;have e0':=((after HB6.o).1 bx (ox+k*4) hbx).trans d0;have e1':=((after HB6.o).1 bx (ox+k*4+1) hbx).trans d1;have e2':=((after HB6.o).1 bx (ox+k*4+2) hbx).trans d2;have e3':=((after HB6.o).1 bx (ox+k*4+3) hbx).trans d3;have YZ:=Nat.lt_of_lt_of_le hbx HB6.o.size;clear tok1 hb0 hb6 hown6 hgrow6 YW d0' d1' d2' d3')
           |(refine dP rfl (.tmp 64) (.tmp 69) 23 rfl Tryz.underlying23 hi0 hz0 hz1 hz2 rfl dC W5.heap.size at_ _ (cs.take (at_*4)) rfl (HO6.o.alloc _) (some ⟨w6.heap.size,0,none⟩) 1 1 [.slice xa xl xc, .slice va vl vc, .bool xi, .int .i64 xn] rfl (by exact D6 w6 [.slice xa xl xc, .slice va vl vc, .bool xi, .int .i64 xn] 60) rfl (by intro u hu;simp at hu;rcases hu with rfl|rfl|rfl|rfl<;>rfl) (λh=>by cases h) oM (by unfold maxLen;omega) oM (by have:=Tq.o.size;simp;omega) ?_;intro v7 w7 Iz yG;have hb7:=aV (Tq.o.alloc Tq.o.size _) (by have:=Tq.o.size;simp;omega) (HO6.o.alloc _) (Nat.le_refl _) yG;have HB7:=Hd (HB5.o.trans (hb7.mono HB5.o.size));have Ul:=Hd hb7;have HO7:=Hd Iz;clear tok2 hb7 Iz yG e0' e1' e2' e3' YZ)
           |(refine dP rfl (.tmp 71) (.tmp 74) 23 rfl Tryz.underlying23 hi0 hz0 hz1 hz2 rfl dC W5.heap.size (at_+1) v7 _ rfl HO7.o (some ⟨by_,oy+at_*4,none⟩) (on-at_) (oc-at_) (cs.drop (at_*4)) rfl (λj u hu=>⟨by_,oy+at_*4,rfl,by obtain⟨b,o,e,h⟩:=NY.o (at_*4+j) u (by rw[List.getElem?_drop]at hu;exact hu);cases e;rw[Nat.add_assoc];exact(Ul.o.cell (p:=⟨by_,oy+(at_*4+j),none⟩) (World.block_lt_of_cell? _ _ h)).trans h⟩) (by rw[List.length_drop,HCL.o];omega) (λu hu=>Rh.o u (List.mem_of_mem_drop hu)) (λh=>by cases h) oM (by unfold maxLen;omega) oM (by have:=Ul.o.size;omega) ?_;intro v8 w8 QC IU;have hb8:=aV Ul.o Ul.o.size HO7.o (Nat.le_refl _) IU;have HB8:=Hd (HB5.o.trans (hb8.mono HB5.o.size));have Tt:=Hd hb8;have HO8:=Hd QC;clear YX hb8 QC IU))
          go_roundw
          case rel=>
           have hx1:=HXV.o.1;have hx2:=HXV.o.2;have c1:=(HCS.o.take at_).same Tt.o.size λb _ h=>Tt.o.block b h;have c2:aS w8 (Or T w) [.slice xa xl xc, .slice va vl vc, .bool xi, .int .i64 xn] [x]:=by
            rw[<- hx1,<- hx2];exact(Bf (H4.o.mono λb h=>(.inl h:Or T w b)) (H5.o.mono λb h=>(.inl h:Or T w b)) H6.o).same HB8.o.size λb _ h=>HB8.o.block b h
           have c3:=(HCS.o.drop at_).same Tt.o.size λb _ h=>Tt.o.block b h;have hic:=(c1.append c2).append c3;have hon:=HO.o.hlen;obtain⟨za,zc,rfl,hI⟩:=hic.shut2 HO8.o oM;refine⟨k+1,at_+1+(on-at_),zc,za,_,rfl,by go_num,HLT.o,by have:=HOK.o;omega,hI.mono (λb h=>?_),?_,HB.o.trans (HB8.o.mono HB.o.size)⟩
           .rcases h with h|h
            .exact h
            .exact .inr (Nat.le_trans (Nat.le_trans HB.o.size HB5.o.size) h)
           .rw[List.append_assoc,List.singleton_append,<- VD.o];exact NW.o
          case measure=>simp[intOf];omega
     .have hyp:∀y,O[at_]?≠some y:=λy hy=>hAo (by have:=(List.getElem?_eq_some_iff.1 hy).1;rwa [HO.o.hlen]at this);have HNY:=Hd hyp;clear hyp;have HB3:=Hd hb;have hat':¬(at_:Int)<(on:Int):=oM;clear hb hbl;go_wp2_with fail;refine' ah [.inl _, .inl _, .inl _, .inl _, .inl _, .inl undef, .inl undef, .inl undef, .inl undef, .inl undef, .inl undef, .inl undef, .inl undef, .inl undef, .inl undef, .inl undef, .inl _] kR kR ?nH
      case nH=>
       iterate 5 refine wD ?_
       iterate 11 refine wS ?_
       refine wD ?_;refine aj λW4 hE4 hG4=>?_;have L9:=hE4.cF;have Mc:=hE4.fF;have HB4:=Hd (HB3.o.trans (hE4.mono HB3.o.size));clear hE4 hG4;have aa:=λj=>(after HB4.o).1 bx (ox+k*4+j) hbx;have d0':=((after HB4.o).1 bx (ox+k*4) hbx).trans d0;have d1':=(aa 1).trans d1;have d2':=(aa 2).trans d2;have d3':=(aa 3).trans d3;have YW:=Nat.lt_of_lt_of_le hbx HB4.o.size;clear aa;go_wp2_with fail;cases q with
       |false=>
        refine' ah [(Sum.inl _:Piece),(Sum.inl _:Piece),(Sum.inl _:Piece),(Sum.inl _:Piece),(Sum.inl _:Piece),(Sum.inl _:Piece),(Sum.inl _:Piece),(Sum.inl undef:Piece),(Sum.inl undef:Piece),(Sum.inl undef:Piece),(Sum.inl undef:Piece),(Sum.inl undef:Piece),(Sum.inl undef:Piece),(Sum.inl undef:Piece),(Sum.inl undef:Piece),(Sum.inl undef:Piece),(Sum.inl undef:Piece),(Sum.inl undef:Piece),(Sum.inl undef:Piece),(Sum.inl undef:Piece),(Sum.inl undef:Piece),(Sum.inl undef:Piece),(Sum.inl undef:Piece),(Sum.inl undef:Piece),(Sum.inl undef:Piece),(Sum.inl undef:Piece),(Sum.inl _:Piece)] kR kR ?uI
        case uI=>
         iterate 3 refine wD ?_
         refine wE ?_;refine wG (λW hE hN=>by go_simp;refine⟨Below.refl _ _,?_⟩;refine(QB.o W).mono ?_;rintro e w' ⟨rfl,hb⟩;refine⟨?_,hb⟩;rfl) ?_;iterate 2 refine wD ?_
         iterate 19 refine wS ?_
         refine wD ?_;refine aj λW5 hE5 hG5=>?_;have UN:=hE5.cF;have UO:=hE5.fF;have HB5:=Hd (HB4.o.trans (hE5.mono HB4.o.size));clear hE5 hG5;have hnn:=HN.o;go_wp2_with fail;go_roundw
         case rel=>
          have hrs:mV O x=O:=D7 HQ.o;refine⟨k+1,on,oc,_,O,rfl,by go_num,HLT.o,by have:=HOK.o;omega,HO.o.ext1 HB5.o,?_,HB.o.trans (HB5.o.mono HB.o.size)⟩;rw[<- hrs];exact NW.o
         case measure=>simp[intOf];omega
       |true=>
        refine' ah [(Sum.inl _:Piece),(Sum.inl _:Piece),(Sum.inl _:Piece),(Sum.inl _:Piece),(Sum.inl _:Piece),(Sum.inl _:Piece),(Sum.inl _:Piece),(Sum.inl _:Piece),(Sum.inl _:Piece),(Sum.inl _:Piece),(Sum.inl _:Piece),(Sum.inl _:Piece),(Sum.inl undef:Piece),(Sum.inl undef:Piece),(Sum.inl undef:Piece),(Sum.inl undef:Piece),(Sum.inl undef:Piece),(Sum.inl undef:Piece),(Sum.inl undef:Piece),(Sum.inl undef:Piece),(Sum.inl undef:Piece),(Sum.inl undef:Piece),(Sum.inl undef:Piece),(Sum.inl undef:Piece),(Sum.inl undef:Piece),(Sum.inl _:Piece),(Sum.inl _:Piece)] kR kR ?uJ
        case uJ=>
         iterate 3 refine wD ?_
         refine wE ?_;refine wG (λW hE hN=>by go_simp;refine⟨Below.refl _ _,?_⟩;refine(QB.o W).mono ?_;rintro e w' ⟨rfl,hb⟩;refine⟨?_,hb⟩;rfl) ?_;iterate 7 refine wD ?_
         iterate 13 refine wS ?_
         iterate 2 refine wD ?_
         refine aj λW5 hE5 hG5=>?_;have UN:=hE5.cF;have UO:=hE5.fF;have HB5:=Hd (HB4.o.trans (hE5.mono HB4.o.size));clear hE5 hG5;have VD:=Hd (show mV O x=O.take at_++x::O.drop at_ from IL HA.o HQ.o (λy hy _=>HNY.o y hy));have hnn:=HN.o;have hoc:=HO.o.hcap;have hac:(at_:Int)<=(oc:Int):=oM;have abR:(at_:Int)<=(on:Int):=oM;obtain⟨cs,hcs,hone,IQ⟩:=vC (HO.o.ext1 HB5.o);have HCS:=Hd hcs;have Rh:=Hd hone;have NY:=Hd IQ;have HCL:=Hd (show cs.length=on*4 by rw[hcs.1,HO.o.hlen]);clear hcs hone IQ;have tok1:=True.intro;have tok2:=True.intro;have YX:=True.intro;obtain⟨hi0,hz0,hz1,hz2⟩:=HI.o;have hb0:=Below.refl W5.heap.size W5;go_wp2_with (at_builtin;first
          |(refine dP rfl (.tmp 59) (.tmp 62) 23 rfl Tryz.underlying23 hi0 hz0 hz1 hz2 rfl dC W5.heap.size 0 _ [] rfl (World.ownsRow_nil _ _ _ _) _ at_ _ (cs.take (at_*4)) rfl (λj u hu=>NY.o j u (by rw[List.getElem?_take]at hu;split at hu;exact hu;cases hu)) (by rw[List.length_take,HCL.o];omega) (λu hu=>Rh.o u (List.mem_of_mem_take hu)) HO.o.hnil oM (by unfold maxLen;omega) oM (Nat.le_refl _) ?_;intro v6 w6 hown6 hgrow6;rw[Nat.zero_add,List.nil_append]at hown6;have hb6:=aV hb0 (Nat.le_refl _) (World.ownsRow_nil W5 W5.heap.size 60 4) (Nat.le_refl _) hgrow6;have HB6:=Hd (HB5.o.trans (hb6.mono HB5.o.size));have Tq:=Hd hb6;have HO6:=Hd hown6;have e0':=((after HB6.o).1 bx (ox+k*4) hbx).trans d0;have e1':=((after HB6.o).1 bx (ox+k*4+1) hbx).trans d1;have e2':=((after HB6.o).1 bx (ox+k*4+2) hbx).trans d2;have e3':=((after HB6.o).1 bx (ox+k*4+3) hbx).trans d3;have YZ:=Nat.lt_of_lt_of_le hbx HB6.o.size;clear tok1 hb0 hb6 hown6 hgrow6 YW d0' d1' d2' d3')
          |(refine dP rfl (.tmp 64) (.tmp 69) 23 rfl Tryz.underlying23 hi0 hz0 hz1 hz2 rfl dC W5.heap.size at_ _ (cs.take (at_*4)) rfl (HO6.o.alloc _) (some ⟨w6.heap.size,0,none⟩) 1 1 [.slice xa xl xc, .slice va vl vc, .bool xi, .int .i64 xn] rfl (by exact D6 w6 [.slice xa xl xc, .slice va vl vc, .bool xi, .int .i64 xn] 60) rfl (by intro u hu;simp at hu;rcases hu with rfl|rfl|rfl|rfl<;>rfl) (λh=>by cases h) oM (by unfold maxLen;omega) oM (by have:=Tq.o.size;simp;omega) ?_;intro v7 w7 Iz yG;have hb7:=aV (Tq.o.alloc Tq.o.size _) (by have:=Tq.o.size;simp;omega) (HO6.o.alloc _) (Nat.le_refl _) yG;have HB7:=Hd (HB5.o.trans (hb7.mono HB5.o.size));have Ul:=Hd hb7;have HO7:=Hd Iz;clear tok2 hb7 Iz yG e0' e1' e2' e3' YZ)
          |(refine dP rfl (.tmp 71) (.tmp 74) 23 rfl Tryz.underlying23 hi0 hz0 hz1 hz2 rfl dC W5.heap.size (at_+1) v7 _ rfl HO7.o _ (on-at_) (oc-at_) (cs.drop (at_*4)) rfl (λj u hu=>by rw[List.drop_eq_nil_of_le (by rw[HCL.o];omega)]at hu;cases hu) (by rw[List.length_drop,HCL.o];omega) (λu hu=>Rh.o u (List.mem_of_mem_drop hu)) (λh=>by have h2:oa=none:=by {split at h;exact h;cases oa with|none=>rfl|some a=>cases h};rw[HO.o.hnil h2,Nat.zero_sub]) oM (by unfold maxLen;omega) oM (by have:=Ul.o.size;omega) ?_;intro v8 w8 QC IU;have hb8:=aV Ul.o Ul.o.size HO7.o (Nat.le_refl _) IU;have HB8:=Hd (HB5.o.trans (hb8.mono HB5.o.size));have Tt:=Hd hb8;have HO8:=Hd QC;clear YX hb8 QC IU))
         go_roundw
         case rel=>
          have hx1:=HXV.o.1;have hx2:=HXV.o.2;have c1:=(HCS.o.take at_).same Tt.o.size λb _ h=>Tt.o.block b h;have c2:aS w8 (Or T w) [.slice xa xl xc, .slice va vl vc, .bool xi, .int .i64 xn] [x]:=by
           rw[<- hx1,<- hx2];exact(Bf (H4.o.mono λb h=>(.inl h:Or T w b)) (H5.o.mono λb h=>(.inl h:Or T w b)) H6.o).same HB8.o.size λb _ h=>HB8.o.block b h
          have c3:=(HCS.o.drop at_).same Tt.o.size λb _ h=>Tt.o.block b h;have hic:=(c1.append c2).append c3;have hon:=HO.o.hlen;obtain⟨za,zc,rfl,hI⟩:=hic.shut2 HO8.o oM;refine⟨k+1,at_+1+(on-at_),zc,za,_,rfl,by go_num,HLT.o,by have:=HOK.o;omega,hI.mono (λb h=>?_),?_,HB.o.trans (HB8.o.mono HB.o.size)⟩
          .rcases h with h|h
           .exact h
           .exact .inr (Nat.le_trans (Nat.le_trans HB.o.size HB5.o.size) h)
          .rw[List.append_assoc,List.singleton_append,<- VD.o];exact NW.o
         case measure=>simp[intOf];omega
  .go_wp2;go_ret;obtain rfl:k=n:=oM;rw[List.drop_eq_nil_of_le (by rw[HLL.o];exact Nat.le_refl _)]at hRR;rw[<- hRR];exact⟨_,_,_,rfl,hO,hbel⟩
end Go.Proofs.YtenmnhnlcnmloaaGreat

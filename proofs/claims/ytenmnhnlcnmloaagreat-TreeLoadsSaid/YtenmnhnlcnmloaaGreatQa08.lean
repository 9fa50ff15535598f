/- Part of a proof of a law of the layer of trees. -/
import Derived.Test.YtenmnhnlcnmloaaGreatQa07
import Derived.Lib.Bytealg
import Derived.Lib.UnsafeStr
import Derived.Laws.Entries
import Derived.Test.YtenmnhnlcnmloaaGreatQa01
set_option linter.unusedVariables false
set_option linter.unusedSimpArgs false
set_option maxHeartbeats 8000000
set_option maxRecDepth 8000
namespace Go.Dav
open Go Go.RowKit
theorem Gi(w:World):∀(l:List UInt8) (a:Addr) (acc:ByteArray) {P:Program},(∀j x,l[j]? =some x->w.cell? (a.add j)=some (.int .u8 (x.toNat:Int)))->
  (Extern.Bytes.loadBytes a l.length acc).run P w= .ok ⟨acc.data++l.toArray⟩ w
 |[],a,acc,_,_=>by simp[Extern.Bytes.loadBytes]
 |x::l,a,acc,P,h=>by
  have h0:w.cell? a=some (.int .u8 (x.toNat:Int)):=by
   have:=h 0 x rfl;simpa[Addr.add]using this
  have ih:=Gi w l (a.add 1) (acc.push x) (P:=P) (λj y hy=>by
   have:=h (j+1) y (by simpa using hy);have e:(a.add 1).add j=a.add (j+1):=by
    unfold Addr.add;by_cases hj:j=0
    .subst hj;simp
    .simp[hj];omega
   rw[e];exact this)
  have hx:((x.toNat:Int).toNat).toUInt8=x:=by simp
  simp only[List.length_cons,Extern.Bytes.loadBytes,Sem.run_bind,run_load,h0,Result.andThen,hx];rw[ih];congr 1
  apply ByteArray.ext;simp[ByteArray.push]
theorem BytesAt.read{P:Program}{W:World}{a:Option Addr}{n c:Nat}{l:List UInt8}(h:BytesAt W a n c l):(Extern.Bytes.bytesOf (.slice a n c)).run P W= .ok ⟨l.toArray⟩ W:=by
 have hl:=h.hlen;subst hl;cases a with
 |none=>
  have h0:=h.hnil rfl;have h1:=h.hcap;have:l=[]:=List.length_eq_zero_iff.1 oM;subst this;rfl
 |some a=>
  have:=Gi W l a .empty (P:=P) (λj x hx=>by
   obtain⟨b,o,e,_,hc⟩:=h.hat j x hx;cases e;rw[show(⟨b,o,none⟩:Addr).add j=⟨b,o+j,none⟩ by unfold Addr.add;split<;>simp_all];exact hc)
  show(Extern.Bytes.loadBytes a l.length .empty).run P W=_;rw[this];congr 1
  apply ByteArray.ext;show(#[]:Array UInt8)++l.toArray=l.toArray;simp
theorem Gj{P:Program}{W:World}{a b:Option Addr}{n c m d:Nat}{x y:List UInt8}(hx:BytesAt W a n c x)(hy:BytesAt W b m d y):
  (Extern.BytealgCompare.compare #[.slice a n c, .slice b m d]).run P W= .ok (.int .i64 (Lib.compareBytes x y)) W:=by
 change Sem.run P (do pure (goInt (Extern.BytealgCompare.cmp (<- Extern.Bytes.bytesOf (.slice a n c)) (<- Extern.Bytes.bytesOf (.slice b m d))))) W=_;simp only[Sem.run_bind,Sem.run_pure,hx.read,hy.read,Result.andThen];rw[Lib.cmp_eq];rfl
theorem ji:∀(x y:List UInt8),(Lib.compareBytes x y<0↔bH x y=true)/\(Lib.compareBytes x y=0↔x=y)/\ -1<=Lib.compareBytes x y/\Lib.compareBytes x y<=1
 |[],[]=>by simp[Lib.compareBytes,bH]
 |[],_::_=>by simp[Lib.compareBytes,bH]
 |_::_,[]=>by simp[Lib.compareBytes,bH]
 |a::x,b::y=>by
  have ih:=ji x y;unfold Lib.compareBytes bH;by_cases h:a=b
  .subst h;have hl:¬a<a:=UInt8.lt_irrefl a;simp only[hl,if_false,if_true,List.cons.injEq,true_and];exact ih
  .rw[if_neg h];by_cases hl:a<b
   .rw[if_pos hl];have h2:a.toNat<b.toNat:=UInt8.lt_iff_toNat_lt.1 hl;simp[h,h2]
   .rw[if_neg hl];have h2:¬a.toNat<b.toNat:=λh=>hl (UInt8.lt_iff_toNat_lt.2 h);have h3:b<a:=UInt8.lt_of_le_of_ne (UInt8.not_lt.1 hl) (Ne.symm h);rw[if_pos h3];simp[h,h2]
def qQ(N:aT):Int:=if bI N then 0 else 240
theorem rG{N:aT}(h:ug N=false):qQ N=240:=by unfold qQ;rw[<- zS,h];rfl
theorem Df{N:aT}(h:ug N=true):qQ N=0:=by unfold qQ;rw[<- zS,h];rfl
theorem Gl{L:List dw}{k:Nat}(hk:k<L.length)(h:uM L k=false):iU L L.length=false:=by
 unfold iU;rw[List.all_eq_false];exact⟨k,List.mem_range.2 hk,by rw[h];simp⟩
end Go.Dav
namespace Go.Proofs.YtenmnhnlcnmloaaGreat
open Go.RowKit Go.Dav
attribute [local go_sem] Gives ite_val ay
theorem Ew:(Tryz.prog.info? 243).map (λi=>(i.zero,i.size,i.bytes))=some (some .nilIface,1,16):=kR
theorem vM:BQ Tryz.prog 239 243 16:=by
 obtain⟨i0,hi,hz0,hz1,hz2⟩:=info_parts Ew;exact⟨Tryz.underlying239,i0,_,hi,hz0,hz1,hz2,rfl⟩
structure kN(W:World)(S T:Nat->Prop)(a:Option Addr)(n c:Nat)(L:List dw):Prop where
 hlen:L.length=n
 hcap:n<=c
 hmax:c<=maxLen
 hnil:a=none->c=0
 hat:∀k x,L[k]? =some x->∃b o u,a=some ⟨b,o,none⟩/\b<W.heap.size/\T b/\W.cell? ⟨b,o+k,none⟩=some (.iface (Gg x) u)/\dD W S u x
theorem kN.same{W W':World}{S T:Nat->Prop}{a:Option Addr}{n c:Nat}{L:List dw}(h:kN W S T a n c L)(hs:W.heap.size<=W'.heap.size)(hb:∀b,S b->b<W.heap.size->W'.heap[b]? =W.heap[b]?)(hb2:∀b,T b->b<W.heap.size->W'.heap[b]? =W.heap[b]?):kN W' S T a n c L:=
 ⟨h.hlen,h.hcap,h.hmax,h.hnil,λk x hk=>by
  obtain⟨b,o,u,h1,h2,h3,h4,h5⟩:=h.hat k x hk;exact⟨b,o,u,h1,oM,h3,(World.cell?_of_block (a:=⟨b,o+k,none⟩) (hb2 b h3 h2)).trans h4,h5.same hs hb⟩⟩
theorem kN.ext{W W':World}{S T:Nat->Prop}{a:Option Addr}{n c:Nat}{L:List dw}(h:kN W S T a n c L)(hb:Below W.heap.size W W'):kN W' S T a n c L:=h.same hb.size (λb _ h2=>hb.block b h2) (λb _ h2=>hb.block b h2)
theorem Me{W:World}{S:Nat->Prop}{a:Option Addr}{n c:Nat}{l:List aP}(h:aY W S a n c l):∃us:List Value,us.length=n/\∀k x,l[k]? =some x->∃b o ka kl kc va vl vc,a=some ⟨b,o,none⟩/\b<W.heap.size/\W.cell? ⟨b,o+k*4,none⟩=some (.slice ka kl kc)/\W.cell? ⟨b,o+k*4+1,none⟩=some (.slice va vl vc)/\W.cell? ⟨b,o+k*4+2,none⟩=some (.bool x.int)/\W.cell? ⟨b,o+k*4+3,none⟩=some (.int .i64 x.n)/\us[k]? =some (.agg #[.slice ka kl kc, .slice va vl vc, .bool x.int, .int .i64 x.n])/\au W S ka kl kc x.key/\au W S va vl vc x.value/\I64 x.n:=by
 have key:∀m,m<=l.length->∃us:List Value,us.length=m/\∀k x,k<m->l[k]? =some x->∃b o ka kl kc va vl vc,a=some ⟨b,o,none⟩/\b<W.heap.size/\W.cell? ⟨b,o+k*4,none⟩=some (.slice ka kl kc)/\W.cell? ⟨b,o+k*4+1,none⟩=some (.slice va vl vc)/\W.cell? ⟨b,o+k*4+2,none⟩=some (.bool x.int)/\W.cell? ⟨b,o+k*4+3,none⟩=some (.int .i64 x.n)/\us[k]? =some (.agg #[.slice ka kl kc, .slice va vl vc, .bool x.int, .int .i64 x.n])/\au W S ka kl kc x.key/\au W S va vl vc x.value/\I64 x.n:=by
  intro m;induction m with
  |zero=>intro _;exact⟨[],rfl,λk x hk=>oM⟩
  |succ m ih=>
   intro hm;obtain⟨us,hl,hu⟩:=ih oM;obtain⟨b,o,ka,kl,kc,va,vl,vc,h1,h2,h3,c0,c1,c2,c3,h4,h5,h6⟩:=h.hat m l[m] (List.getElem?_eq_getElem hm);refine⟨us++[.agg #[.slice ka kl kc, .slice va vl vc, .bool l[m].int, .int .i64 l[m].n]],by simp[hl],λk x hk hx=>?_⟩;by_cases hkm:k<m
   .obtain⟨b,o,ka,kl,kc,va,vl,vc,h1,h2,c0,c1,c2,c3,h3,h4,h5,h6⟩:=hu k x hkm hx;exact⟨b,o,ka,kl,kc,va,vl,vc,h1,h2,c0,c1,c2,c3,by rw[List.getElem?_append_left oM];exact h3,h4,h5,h6⟩
   .obtain rfl:k=m:=oM;rw[List.getElem?_eq_getElem hm]at hx;cases hx;exact⟨b,o,ka,kl,kc,va,vl,vc,h1,h2,c0,c1,c2,c3,by rw[List.getElem?_append_right oM,hl,Nat.sub_self];rfl,h4,h5,h6⟩
 obtain⟨us,h1,h2⟩:=key l.length (Nat.le_refl _);exact⟨us,by rw[h1,h.hlen],λk x hx=>h2 k x (List.getElem?_eq_some_iff.1 hx).1 hx⟩
theorem O7{W:World}{S:Nat->Prop}{a:Option Addr}{n c:Nat}{l:List dS}(h:dZ W S a n c l):∃us:List Value,us.length=n/\∀k x,l[k]? =some x->∃b o ka kl kc,a=some ⟨b,o,none⟩/\b<W.heap.size/\W.cell? ⟨b,o+k*8,none⟩=some (.slice ka kl kc)/\W.cell? ⟨b,o+k*8+1,none⟩=some (.int .i64 x.at_)/\W.cell? ⟨b,o+k*8+2,none⟩=some (.int .i64 x.red.c)/\W.cell? ⟨b,o+k*8+3,none⟩=some (.int .i64 x.red.n)/\W.cell? ⟨b,o+k*8+4,none⟩=some (.int .i64 (hi x.red.s))/\W.cell? ⟨b,o+k*8+5,none⟩=some (.int .u64 (lo x.red.s))/\W.cell? ⟨b,o+k*8+6,none⟩=some (.int .i64 x.red.l)/\W.cell? ⟨b,o+k*8+7,none⟩=some (.int .i64 x.red.m)/\us[k]? =some (.agg #[.slice ka kl kc, .int .i64 x.at_, .int .i64 x.red.c, .int .i64 x.red.n, .int .i64 (hi x.red.s), .int .u64 (lo x.red.s), .int .i64 x.red.l, .int .i64 x.red.m])/\au W S ka kl kc x.key/\I64 x.at_/\x.red.fits:=by
 have key:∀m,m<=l.length->∃us:List Value,us.length=m/\∀k x,k<m->l[k]? =some x->∃b o ka kl kc,a=some ⟨b,o,none⟩/\b<W.heap.size/\W.cell? ⟨b,o+k*8,none⟩=some (.slice ka kl kc)/\W.cell? ⟨b,o+k*8+1,none⟩=some (.int .i64 x.at_)/\W.cell? ⟨b,o+k*8+2,none⟩=some (.int .i64 x.red.c)/\W.cell? ⟨b,o+k*8+3,none⟩=some (.int .i64 x.red.n)/\W.cell? ⟨b,o+k*8+4,none⟩=some (.int .i64 (hi x.red.s))/\W.cell? ⟨b,o+k*8+5,none⟩=some (.int .u64 (lo x.red.s))/\W.cell? ⟨b,o+k*8+6,none⟩=some (.int .i64 x.red.l)/\W.cell? ⟨b,o+k*8+7,none⟩=some (.int .i64 x.red.m)/\us[k]? =some (.agg #[.slice ka kl kc, .int .i64 x.at_, .int .i64 x.red.c, .int .i64 x.red.n, .int .i64 (hi x.red.s), .int .u64 (lo x.red.s), .int .i64 x.red.l, .int .i64 x.red.m])/\au W S ka kl kc x.key/\I64 x.at_/\x.red.fits:=by
  intro m;induction m with
  |zero=>intro _;exact⟨[],rfl,λk x hk=>oM⟩
  |succ m ih=>
   intro hm;obtain⟨us,hl,hu⟩:=ih oM;obtain⟨b,o,ka,kl,kc,h1,h2,h3,c0,c1,c2,c3,c4,c5,c6,c7,h4,h5,h6⟩:=h.hat m l[m] (List.getElem?_eq_getElem hm);refine⟨us++[.agg #[.slice ka kl kc, .int .i64 l[m].at_, .int .i64 l[m].red.c, .int .i64 l[m].red.n, .int .i64 (hi l[m].red.s), .int .u64 (lo l[m].red.s), .int .i64 l[m].red.l, .int .i64 l[m].red.m]],by simp[hl],λk x hk hx=>?_⟩;by_cases hkm:k<m
   .obtain⟨b,o,ka,kl,kc,h1,h2,c0,c1,c2,c3,c4,c5,c6,c7,h3,h4,h5,h6⟩:=hu k x hkm hx;exact⟨b,o,ka,kl,kc,h1,h2,c0,c1,c2,c3,c4,c5,c6,c7,by rw[List.getElem?_append_left oM];exact h3,h4,h5,h6⟩
   .obtain rfl:k=m:=oM;rw[List.getElem?_eq_getElem hm]at hx;cases hx;exact⟨b,o,ka,kl,kc,h1,h2,c0,c1,c2,c3,c4,c5,c6,c7,by rw[List.getElem?_append_right oM,hl,Nat.sub_self];rfl,h4,h5,h6⟩
 obtain⟨us,h1,h2⟩:=key l.length (Nat.le_refl _);exact⟨us,by rw[h1,h.hlen],λk x hx=>h2 k x (List.getElem?_eq_some_iff.1 hx).1 hx⟩
def yg(w:World)(n:Nat)(t:TypeId)(us:List Value)(cs:List Value)(ix v:Value)(wr:World):Prop:=
 ∃k:Nat,k<=n/\ix= .int .i64 k/\wr.ownsRow (w.heap.size+1) 243 1 v k ((us.take k).map (Value.iface t))/\Below (w.heap.size+1) (w.alloc (.cells cs.toArray 67)) wr
def oH(w:World)(S:Nat->Prop)(N:aT)(e:Ending)(w':World):Prop:=
 ∃a n c,e= .returned (.tuple #[.slice a n c, .int .i64 (leastOf N:Int)])/\kN w' S (λb=>w.heap.size<=b) a n c (partsOf N)/\Below w.heap.size w w'
theorem vN{w0 W:World}{base e n:Nat}{v:Value}{xs:List Value}(h:W.ownsRow base e 1 v n xs):∃a c,v= .slice a n c/\bP W (λb=>base<=b) a n xs/\n<=c/\c<=maxLen/\(a=none->c=0):=by
 obtain⟨a,cap,h1,h2,h3,h4,h5⟩:=bf h;exact⟨a,cap,h1,h5,h2,h3,h4⟩
theorem zV(N:aT)(ia ka:Option Addr)(il ic kl kc:Nat)(S:Nat->Prop)(w:World)(hN:bM w S ia il ic ka kl kc N)(hf:N.leaf=true)(h6:N.items.length<=6):
  Calls Tryz.prog 152 #[.agg #[.bool true, .slice ia il ic, .slice ka kl kc]] w (oH w S N):=by
 obtain⟨us,hul,hus⟩:=Me hN.items;have hlen:=hN.items.hlen;have hil:il<=6:=oM;have HU:=Hd hus;have HL:=Hd hul;have HN:=Hd hN;have HH:=Hd hlen;have O8:=hN.items.hnil;have HNI:=Hd O8;clear hus hul hN hlen O8;go_enter Tryz.func152,Tryz.ntmps152;go_wp2_with fail;go_loopw [13,2] (λix v wr=>yg w il 273 us [.bool true, .slice ia il ic, .slice ka kl kc] ix v wr) (λix _ _=>il-(intOf ix).toNat)
 case atStart=>exact⟨0,Nat.zero_le _,rfl,World.ownsRow_nil _ _ _ _,Below.refl _ _⟩
 case round=>
  obtain⟨k,hk,rfl,hown,hbel⟩:=hrel;have hbs:=hbel.size;simp only[World.size_alloc]at hbs;have HOW:=Hd hown;have HB:=Hd hbel;clear hown hbel;by_cases hlt:k<il
  .obtain⟨x,hx⟩:∃x,N.items[k]? =some x:=⟨_,List.getElem?_eq_getElem (by have:=HH.o;omega)⟩;obtain⟨b,o,ka',kl',kc',va,vl,vc,rfl,hb,c0,c1,c2,c3,hu,h4,h5,h6⟩:=HU.o k x hx;have hcell:=λj=>((Below.refl w.heap.size w).alloc (Nat.le_refl _) (.cells #[.bool true, .slice (some ⟨b,o,none⟩) il ic, .slice ka kl kc] 67)).trans (HB.o.mono (Nat.le_succ _))|>.cell (p:=⟨b,o+k*4+j,none⟩) hb
   have d0:=(hcell 0).trans c0;have d1:=(hcell 1).trans c1;have d2:=(hcell 2).trans c2;have d3:=(hcell 3).trans c3;rw[Nat.add_zero]at d0;have hkl:(k:Int)<(il:Int):=oM;have hbw:b<wr.heap.size:=oM;have HK:=Hd hu;have HLT:=Hd hlt;have HC:=Hd (cells_one (W:=(wr.alloc (.cells #[.slice ka' kl' kc', .slice va vl vc, .bool x.int, .int .i64 x.n] 60)).alloc (.cells #[.iface 273 (.agg #[.slice ka' kl' kc', .slice va vl vc, .bool x.int, .int .i64 x.n])] 243)) (S:=λb=>wr.heap.size+1<=b) (g:=wr.heap.size+1) (v:= .iface 273 (.agg #[.slice ka' kl' kc', .slice va vl vc, .bool x.int, .int .i64 x.n])) (Nat.le_refl _) (by simp) ((Blk.new' _ [_] _ (by simp)).cell 0 rfl));clear hcell c0 c1 c2 c3 hu h4 h5 h6 hk hlt hx;go_wp2_with (at_builtin;refine ak rfl (.tmp 17) (.tmp 20) 239 rfl vM (w.heap.size+1) _ k ((us.take k).map (Value.iface 273)) rfl ((HOW.o.alloc _).alloc _) (λb=>wr.heap.size+1<=b) (some ⟨wr.heap.size+1,0,none⟩) 1 1 [.iface 273 (.agg #[.slice ka' kl' kc', .slice va vl vc, .bool x.int, .int .i64 x.n])] rfl HC.o (λu hu=>by simp at hu;subst hu;rfl) (λh=>by cases h) (by unfold maxLen;omega) oM (by simp;omega) ?_;intro v1 w1 hown1 hgrow1)
   have xu:=((HB.o.alloc oM (.cells #[.slice ka' kl' kc', .slice va vl vc, .bool x.int, .int .i64 x.n] 60)).alloc (by simp;omega) (.cells #[.iface 273 (.agg #[.slice ka' kl' kc', .slice va vl vc, .bool x.int, .int .i64 x.n])] 243)).grown hgrow1 (by simp;omega) (λk hk=>(HOW.o.lt k hk).1);have e1:(us.take k).map (Value.iface 273)++[.iface 273 (.agg #[.slice ka' kl' kc', .slice va vl vc, .bool x.int, .int .i64 x.n])]=(us.take (k+1)).map (Value.iface 273):=by rw[List.take_add_one,HK.o];simp
   rw[e1]at hown1;clear e1 HC;go_roundw
   case rel=>exact⟨k+1,HLT.o,by go_num,hown1,xu⟩
   case measure=>simp[intOf];omega
  .obtain rfl:k=il:=oM;have hk3:¬((k:Int)<(k:Int)):=oM;have hown:=HOW.o;have e0:=HL.o;rw[List.take_of_length_le oM]at hown;have E0:=Hd e0;obtain⟨pa,pc,rfl,hcs,g1,g2,g3⟩:=vN (w0:=w) hown;have HCS:=Hd hcs;have g4:=Hd g3;clear hk hlt hown e0 hcs g3;go_wp2;go_ret2
   have hb2:Below w.heap.size w wr:=((Below.refl _ w).alloc (Nat.le_refl _) _).trans (HB.o.mono oM);refine⟨pa,k,pc,?_,⟨?_,g1,g2,g4.o,λi x hx=>?_⟩,hb2⟩
   .unfold leastOf;rw[if_pos hf];rfl
   .unfold partsOf;rw[if_pos hf,List.length_map,HH.o]
   .unfold partsOf at hx;rw[if_pos hf,List.getElem?_map]at hx;obtain⟨y,hy,rfl⟩:=Option.map_eq_some_iff.1 hx;obtain⟨b,o,ka',kl',kc',va,vl,vc,_,_,_,_,_,_,hu,h4,h5,h6⟩:=HU.o i y hy;obtain⟨b2,o2,h7,h8,h9,h10⟩:=HCS.o.at_ i (.iface 273 (.agg #[.slice ka' kl' kc', .slice va vl vc, .bool y.int, .int .i64 y.n])) (by rw[List.getElem?_map,hu];rfl);exact⟨b2,o2,_,h7,h8,oM,h10,ka',kl',kc',va,vl,vc,rfl,h4.ext hb2,h5.ext hb2,h6⟩
theorem yS(N:aT)(ia ka:Option Addr)(il ic kl kc:Nat)(S:Nat->Prop)(w:World)(hN:bM w S ia il ic ka kl kc N)(hf:N.leaf=false)(h6:N.kids.length<=6):
  Calls Tryz.prog 152 #[.agg #[.bool false, .slice ia il ic, .slice ka kl kc]] w (oH w S N):=by
 obtain⟨us,hul,hus⟩:=O7 hN.kids;have hlen:=hN.kids.hlen;have hil:kl<=6:=oM;have HU:=Hd hus;have HL:=Hd hul;have HN:=Hd hN;have HH:=Hd hlen;have O8:=hN.kids.hnil;have HNI:=Hd O8;clear hus hul hN hlen O8;go_enter Tryz.func152,Tryz.ntmps152;go_wp2_with fail;go_loopw [27,2] (λix v wr=>yg w kl 274 us [.bool false, .slice ia il ic, .slice ka kl kc] ix v wr) (λix _ _=>kl-(intOf ix).toNat)
 case atStart=>exact⟨0,Nat.zero_le _,rfl,World.ownsRow_nil _ _ _ _,Below.refl _ _⟩
 case round=>
  obtain⟨k,hk,rfl,hown,hbel⟩:=hrel;have hbs:=hbel.size;simp only[World.size_alloc]at hbs;have HOW:=Hd hown;have HB:=Hd hbel;clear hown hbel;by_cases hlt:k<kl
  .obtain⟨x,hx⟩:∃x,N.kids[k]? =some x:=⟨_,List.getElem?_eq_getElem (by have:=HH.o;omega)⟩;obtain⟨b,o,ka',kl',kc',rfl,hb,c0,c1,c2,c3,c4,c5,c6,c7,hu,h4,h5,h6⟩:=HU.o k x hx;have hcell:=λj=>((Below.refl w.heap.size w).alloc (Nat.le_refl _) (.cells #[.bool false, .slice ia il ic, .slice (some ⟨b,o,none⟩) kl kc] 67)).trans (HB.o.mono (Nat.le_succ _))|>.cell (p:=⟨b,o+k*8+j,none⟩) hb
   have d0:=(hcell 0).trans c0;have d1:=(hcell 1).trans c1;have d2:=(hcell 2).trans c2;have d3:=(hcell 3).trans c3;have d4:=(hcell 4).trans c4;have d5:=(hcell 5).trans c5;have d6:=(hcell 6).trans c6;have d7:=(hcell 7).trans c7;rw[Nat.add_zero]at d0;have hkl:(k:Int)<(kl:Int):=oM;have hbw:b<wr.heap.size:=oM;have HK:=Hd hu;have HLT:=Hd hlt;have HC:=Hd (cells_one (W:=(wr.alloc (.cells #[.slice ka' kl' kc', .int .i64 x.at_, .int .i64 x.red.c, .int .i64 x.red.n, .int .i64 (hi x.red.s), .int .u64 (lo x.red.s), .int .i64 x.red.l, .int .i64 x.red.m] 128)).alloc (.cells #[.iface 274 (.agg #[.slice ka' kl' kc', .int .i64 x.at_, .int .i64 x.red.c, .int .i64 x.red.n, .int .i64 (hi x.red.s), .int .u64 (lo x.red.s), .int .i64 x.red.l, .int .i64 x.red.m])] 243)) (S:=λb=>wr.heap.size+1<=b) (g:=wr.heap.size+1) (v:= .iface 274 (.agg #[.slice ka' kl' kc', .int .i64 x.at_, .int .i64 x.red.c, .int .i64 x.red.n, .int .i64 (hi x.red.s), .int .u64 (lo x.red.s), .int .i64 x.red.l, .int .i64 x.red.m])) (Nat.le_refl _) (by simp) ((Blk.new' _ [_] _ (by simp)).cell 0 rfl));clear hcell c0 c1 c2 c3 c4 c5 c6 c7 hu h4 h5 h6 hk hlt hx;go_wp2_with (at_builtin;refine ak rfl (.tmp 31) (.tmp 34) 239 rfl vM (w.heap.size+1) _ k ((us.take k).map (Value.iface 274)) rfl ((HOW.o.alloc _).alloc _) (λb=>wr.heap.size+1<=b) (some ⟨wr.heap.size+1,0,none⟩) 1 1 [.iface 274 (.agg #[.slice ka' kl' kc', .int .i64 x.at_, .int .i64 x.red.c, .int .i64 x.red.n, .int .i64 (hi x.red.s), .int .u64 (lo x.red.s), .int .i64 x.red.l, .int .i64 x.red.m])] rfl HC.o (λu hu=>by simp at hu;subst hu;rfl) (λh=>by cases h) (by unfold maxLen;omega) oM (by simp;omega) ?_;intro v1 w1 hown1 hgrow1)
   have xu:=((HB.o.alloc oM (.cells #[.slice ka' kl' kc', .int .i64 x.at_, .int .i64 x.red.c, .int .i64 x.red.n, .int .i64 (hi x.red.s), .int .u64 (lo x.red.s), .int .i64 x.red.l, .int .i64 x.red.m] 128)).alloc (by simp;omega) (.cells #[.iface 274 (.agg #[.slice ka' kl' kc', .int .i64 x.at_, .int .i64 x.red.c, .int .i64 x.red.n, .int .i64 (hi x.red.s), .int .u64 (lo x.red.s), .int .i64 x.red.l, .int .i64 x.red.m])] 243)).grown hgrow1 (by simp;omega) (λk hk=>(HOW.o.lt k hk).1);have e1:(us.take k).map (Value.iface 274)++[.iface 274 (.agg #[.slice ka' kl' kc', .int .i64 x.at_, .int .i64 x.red.c, .int .i64 x.red.n, .int .i64 (hi x.red.s), .int .u64 (lo x.red.s), .int .i64 x.red.l, .int .i64 x.red.m])]=(us.take (k+1)).map (Value.iface 274):=by rw[List.take_add_one,HK.o];simp
   rw[e1]at hown1;clear e1 HC;go_roundw
   case rel=>exact⟨k+1,HLT.o,by go_num,hown1,xu⟩
   case measure=>simp[intOf];omega
  .obtain rfl:k=kl:=oM;have hk3:¬((k:Int)<(k:Int)):=oM;have hown:=HOW.o;have e0:=HL.o;rw[List.take_of_length_le oM]at hown;have E0:=Hd e0;obtain⟨pa,pc,rfl,hcs,g1,g2,g3⟩:=vN (w0:=w) hown;have HCS:=Hd hcs;have g4:=Hd g3;clear hk hlt hown e0 hcs g3;go_wp2;go_ret2
   have hb2:Below w.heap.size w wr:=((Below.refl _ w).alloc (Nat.le_refl _) _).trans (HB.o.mono oM);refine⟨pa,k,pc,?_,⟨?_,g1,g2,g4.o,λi x hx=>?_⟩,hb2⟩
   .unfold leastOf;rw[hf];rfl
   .unfold partsOf;rw[hf,if_neg Bool.false_ne_true,List.length_map,HH.o]
   .unfold partsOf at hx;rw[hf,if_neg Bool.false_ne_true,List.getElem?_map]at hx;obtain⟨y,hy,rfl⟩:=Option.map_eq_some_iff.1 hx;obtain⟨b,o,ka',kl',kc',_,_,_,_,_,_,_,_,_,_,hu,h4,h5,h6⟩:=HU.o i y hy;obtain⟨b2,o2,h7,h8,h9,h10⟩:=HCS.o.at_ i (.iface 274 (.agg #[.slice ka' kl' kc', .int .i64 y.at_, .int .i64 y.red.c, .int .i64 y.red.n, .int .i64 (hi y.red.s), .int .u64 (lo y.red.s), .int .i64 y.red.l, .int .i64 y.red.m])) (by rw[List.getElem?_map,hu];rfl);exact⟨b2,o2,_,h7,h8,oM,h10,ka',kl',kc',rfl,h4.ext hb2,h5,h6⟩
def vO(f:Bool)(ia:Option Addr)(il ic:Nat)(ka:Option Addr)(kl kc:Nat):Value:= .agg #[.bool f, .slice ia il ic, .slice ka kl kc]
theorem sV(N:aT)(ia ka:Option Addr)(il ic kl kc:Nat)(S:Nat->Prop)(w:World)(hN:bM w S ia il ic ka kl kc N)(h6:(partsOf N).length<=6):
  Calls Tryz.prog 152 #[.agg #[.bool N.leaf, .slice ia il ic, .slice ka kl kc]] w (oH w S N):=by
 cases hf:N.leaf with
 |true=>exact zV N ia ka il ic kl kc S w hN hf (by unfold partsOf at h6;rw[if_pos hf,List.length_map]at h6;exact h6)
 |false=>exact yS N ia ka il ic kl kc S w hN hf (by unfold partsOf at h6;rw[hf,if_neg Bool.false_ne_true,List.length_map]at h6;exact h6)
end Go.Proofs.YtenmnhnlcnmloaaGreat
namespace Go.Proofs.YtenmnhnlcnmloaaGreat
open Go.RowKit Go.Dav
attribute [local go_sem] ite_val ay
set_option maxRecDepth 100000 in
theorem iY(a b:Option Addr)(al ac bl bc:Nat)(x y:List UInt8)(w:World)(hx:BytesAt w a al ac x)(hy:BytesAt w b bl bc y):
  Calls Tryz.prog 47 #[.slice a al ac, .slice b bl bc] w λe w'=>e= .returned (.int .i64 (Lib.compareBytes x y))/\Below w.heap.size w w':=by
 have hr:=Gj (P:=Tryz.prog) hx hy;clear hx hy;go_enter Tryz.func47,Tryz.ntmps47;go_wp2;rw[run_callFunc_extern Tryz.func77 kR kR kR (e:=Extern.BytealgCompare.compare) kR,hr];simp only[Result.andThen];rw[Oper.upon_value];go_wp2;go_ret;exact⟨rfl,Below.refl _ _⟩
end Go.Proofs.YtenmnhnlcnmloaaGreat

/- Part of a proof of a law of the layer of trees. -/
import Derived.Test.YtenmnhnlcnmloaaGreatQa16
import Derived.Test.YtenmnhnlcnmloaaGreatQa10
import Derived.Laws.BitsLemmas
import Derived.Laws.EntriesVeiled
import Derived.Deep.DeepCutAuto
import Derived.Laws.CopyOwn
import Derived.Laws.MakeOwn
import Derived.Laws.OwnMore
import Derived.Test.YtenmnhnlcnmloaaGreatQa01
set_option linter.unusedVariables false
set_option linter.unusedSimpArgs false
set_option maxHeartbeats 8000000
set_option maxRecDepth 8000
namespace Go.Dav
open Go Go.RowKit
def Pz:List UInt8->Option (List UInt8×List UInt8)
 |[]=>none
 |k::r=>if k.toNat<=r.length then some (r.take k.toNat,r.drop k.toNat)else none
theorem wu(k:UInt8)(r:List UInt8):Pz (k::r)=if k.toNat<=r.length then some (r.take k.toNat,r.drop k.toNat)else none:=rfl
def Du(key val r:List UInt8):aP:=⟨key,val,decide (numOf (r.take 1)=1),wrap64 (numOf ((r.drop 1).take 8):Nat)⟩
def nO(l:List UInt8):Option (aP×List UInt8):=
 match Pz l with
 |none=>none
 |some (key,r)=>match Pz r with
  |none=>none
  |some (val,q)=>if 9<=q.length then some (Du key val q,q.drop 9)else none
def PD(key r:List UInt8):dS:=⟨key,(numOf (r.take 4):Nat),⟨(numOf ((r.drop 4).take 4):Nat),(numOf ((r.drop 8).take 4):Nat),wrap64 (numOf ((r.drop 12).take 8):Nat)*18446744073709551616+(numOf ((r.drop 20).take 8):Nat),wrap64 (numOf ((r.drop 28).take 8):Nat),wrap64 (numOf ((r.drop 36).take 8):Nat)⟩⟩
def Dv(l:List UInt8):Option (dS×List UInt8):=
 match Pz l with
 |none=>none
 |some (key,r)=>if 44<=r.length then some (PD key r,r.drop 44)else none
def oK:Nat->List aP->List UInt8->Option (List aP)
 |0,acc,_=>some acc
 |k+1,acc,l=>match nO l with
  |none=>none
  |some (x,r)=>oK k (acc++[x]) r
def oL:Nat->List dS->List UInt8->Option (List dS)
 |0,acc,_=>some acc
 |k+1,acc,l=>match Dv l with
  |none=>none
  |some (x,r)=>oL k (acc++[x]) r
def TV:List UInt8->Option aT
 |f::m::r=>if m.toNat<=6 then(if f.toNat=1 then(oK m.toNat [] r).map (⟨true,·,[]⟩)else(oL m.toNat [] r).map (⟨false,[],·⟩))else none
 |_=>none
def kS(l:List UInt8):Option aT:=
 match TV l with
 |none=>none
 |some N=>if bI N=true/\aJ N=l then some N else none
theorem rO(f m:UInt8)(r:List UInt8):TV (f::m::r)=if m.toNat<=6 then(if f.toNat=1 then(oK m.toNat [] r).map (⟨true,·,[]⟩)else(oL m.toNat [] r).map (⟨false,[],·⟩))else none:=rfl
structure Lf(s:bJ)(l:List UInt8):Prop where
 ok:s.ok=true
 hl:s.l=l
 hn:s.n=l.length
theorem Lf.can{s:bJ}{l:List UInt8}(h:Lf s l)(k:Nat):s.can k=decide (k<=l.length):=by unfold bJ.can;rw[h.ok,h.hn,Bool.true_and]
theorem Lf.next{s:bJ}{l:List UInt8}(h:Lf s l){k:Nat}(hk:k<=l.length):Lf (s.next k) (l.drop k):=by
 unfold bJ.next;rw[h.can,decide_eq_true hk,if_pos rfl];exact⟨rfl,by rw[h.hl],by rw[h.hn,List.length_drop]⟩
theorem Lf.bytes{s:bJ}{l:List UInt8}(h:Lf s l){k:Nat}(hk:k<=l.length):s.bytes k=l.take k:=by
 unfold bJ.bytes;rw[h.can,decide_eq_true hk,if_pos rfl,h.hl]
theorem Lf.num{s:bJ}{l:List UInt8}(h:Lf s l){k:Nat}(hk:k<=l.length):s.num k=numOf (l.take k):=by unfold bJ.num;rw[h.bytes hk]
theorem Lf.not{s:bJ}{l:List UInt8}(h:Lf s l){k:Nat}(hk:¬k<=l.length):(s.next k).ok=false:=by
 unfold bJ.next;rw[h.can,decide_eq_false hk];rfl
theorem eU{s:bJ}(h:s.ok=false)(k:Nat):(s.next k).ok=false:=by unfold bJ.next bJ.can;rw[h];rfl
theorem tH(k:UInt8)(r:List UInt8):numOf ((k::r).take 1)=k.toNat:=by simp[numOf]
theorem Lf.cnt{s:bJ}{l x r:List UInt8}(h:Lf s l)(hc:Pz l=some (x,r)):s.cnt=x/\Lf s.skip r:=by
 cases l with
 |nil=>cases hc
 |cons k q=>
  rw[wu]at hc;split at hc
  .rename_i hk;cases hc;have h1:=h.next (k:=1) (by simp);have hn:s.num 1=k.toNat:=by rw[h.num (by simp),tH]
   unfold bJ.cnt bJ.skip;rw[hn];exact⟨h1.bytes hk,h1.next hk⟩
  .cases hc
theorem Lf.PE{s:bJ}{l:List UInt8}(h:Lf s l)(hc:Pz l=none):s.skip.ok=false:=by
 unfold bJ.skip;cases l with
 |nil=>exact eU (h.not (by simp)) _
 |cons k q=>
  rw[wu]at hc;split at hc
  .cases hc
  .rename_i hk;have h1:=h.next (k:=1) (by simp);have hn:s.num 1=k.toNat:=by rw[h.num (by simp),tH]
   rw[hn];exact h1.not hk
theorem MV{s:bJ}(h:s.ok=false):s.skip.ok=false:=eU (eU h _) _
theorem Lf.item{s:bJ}{l r:List UInt8}{x:aP}(h:Lf s l)(hi:nO l=some (x,r)):lM s=x/\Lf (jy s) r:=by
 unfold nO at hi;split at hi
 .cases hi
 .rename_i key q hc;obtain⟨h1,h2⟩:=h.cnt hc;split at hi
  .cases hi
  .rename_i val q2 hc2;obtain⟨h3,h4⟩:=h2.cnt hc2;split at hi
   .rename_i h9;cases hi;have h5:=h4.next (k:=1) oM;have h8:8<=(q2.drop 1).length:=by rw[List.length_drop];omega
    refine⟨?_,?_⟩
    .unfold lM Du;rw[h1,h3,h4.num oM,h5.num h8]
    .have h6:=h5.next h8;rw[List.drop_drop]at h6;exact h6
   .cases hi
theorem Lf.UH{s:bJ}{l:List UInt8}(h:Lf s l)(hi:nO l=none):(jy s).ok=false:=by
 unfold nO at hi;unfold jy;split at hi
 .rename_i hc;exact eU (eU (MV (h.PE hc)) _) _
 .rename_i key q hc;obtain⟨h1,h2⟩:=h.cnt hc;split at hi
  .rename_i hc2;exact eU (eU (h2.PE hc2) _) _
  .rename_i val q2 hc2;obtain⟨h3,h4⟩:=h2.cnt hc2;split at hi
   .cases hi
   .rename_i h9;by_cases h0:1<=q2.length
    .exact(h4.next h0).not (by rw[List.length_drop];omega)
    .exact eU (h4.not h0) _
theorem Lf.kid{s:bJ}{l r:List UInt8}{x:dS}(h:Lf s l)(hi:Dv l=some (x,r)):o8 s=x/\Lf (jr s) r:=by
 unfold Dv at hi;split at hi
 .cases hi
 .rename_i key q hc;obtain⟨h1,h2⟩:=h.cnt hc;split at hi
  .rename_i h44;cases hi;have ln:∀k,(q.drop k).length=q.length-k:=λk=>List.length_drop;have a2:=h2.next (k:=4) oM;have a3:=a2.next (k:=4) (by rw[ln];omega);rw[List.drop_drop]at a3;have a4:=a3.next (k:=4) (by rw[ln];omega);rw[List.drop_drop]at a4;have a5:=a4.next (k:=8) (by rw[ln];omega);rw[List.drop_drop]at a5;have a6:=a5.next (k:=8) (by rw[ln];omega);rw[List.drop_drop]at a6;have a7:=a6.next (k:=8) (by rw[ln];omega);rw[List.drop_drop]at a7;have a8:=a7.next (k:=8) (by rw[ln];omega);rw[List.drop_drop]at a8;refine⟨?_,a8⟩;unfold o8 PD;unfold k7 k6 k5 k4 k3 k2;rw[h1,h2.num oM,a2.num (by rw[ln];omega),a3.num (by rw[ln];omega),a4.num (by rw[ln];omega),a5.num (by rw[ln];omega),a6.num (by rw[ln];omega),a7.num (by rw[ln];omega)]
  .cases hi
theorem Lf.Wx{s:bJ}{l:List UInt8}(h:Lf s l)(hi:Dv l=none):(jr s).ok=false:=by
 unfold Dv at hi;unfold jr k7 k6 k5 k4 k3 k2;split at hi
 .rename_i hc;exact eU (eU (eU (eU (eU (eU (eU (h.PE hc) _) _) _) _) _) _) _
 .rename_i key q hc;obtain⟨h1,h2⟩:=h.cnt hc;split at hi
  .cases hi
  .rename_i h44;have step:∀(t:bJ) (j k:Nat),(t.ok=false\/(Lf t (q.drop j)/\j<=q.length))->((t.next k).ok=false\/(Lf (t.next k) (q.drop (j+k))/\j+k<=q.length)):=λt j k ht=>by
    rcases ht with ht|⟨ht,hj⟩
    .exact .inl (eU ht _)
    .by_cases hk:k<=(q.drop j).length
     .have:=ht.next hk;rw[List.drop_drop]at this;rw[List.length_drop]at hk;exact .inr ⟨this,oM⟩
     .exact .inl (ht.not hk)
   have b:=step _ _ 8 (step _ _ 8 (step _ _ 8 (step _ _ 8 (step _ _ 4 (step _ _ 4 (step s.skip 0 4 (.inr ⟨by simpa using h2,oM⟩)))))));rcases b with b|⟨_,b⟩
   .exact b
   .omega
theorem GY:∀(k:Nat) (acc:List aP) (s:bJ) (l:List UInt8),Lf s l->(∀L,oK k acc l=some L->(Jg k acc s).1=L/\(Jg k acc s).2.2=true)/\(oK k acc l=none->(Jg k acc s).2.2=false)
 |0,acc,s,l,h=>by
  unfold oK Jg;exact⟨λL e=>by cases e;exact⟨rfl,rfl⟩,λe=>by cases e⟩
 |k+1,acc,s,l,h=>by
  unfold oK Jg;cases hi:nO l with
  |none=>
   rw[h.UH hi];exact⟨λL e=>(by cases e),λ_=>rfl⟩
  |some p=>
   obtain⟨x,r⟩:=p;obtain⟨h1,h2⟩:=h.item hi;rw[h2.ok,if_pos rfl,h1];exact GY k (acc++[x]) (jy s) r h2
theorem GZ:∀(k:Nat) (acc:List dS) (s:bJ) (l:List UInt8),Lf s l->(∀L,oL k acc l=some L->(Jh k acc s).1=L/\(Jh k acc s).2.2=true)/\(oL k acc l=none->(Jh k acc s).2.2=false)
 |0,acc,s,l,h=>by
  unfold oL Jh;exact⟨λL e=>by cases e;exact⟨rfl,rfl⟩,λe=>by cases e⟩
 |k+1,acc,s,l,h=>by
  unfold oL Jh;cases hi:Dv l with
  |none=>
   rw[h.Wx hi];exact⟨λL e=>(by cases e),λ_=>rfl⟩
  |some p=>
   obtain⟨x,r⟩:=p;obtain⟨h1,h2⟩:=h.kid hi;rw[h2.ok,if_pos rfl,h1];exact GZ k (acc++[x]) (jr s) r h2
theorem RQ{s:bJ}{f m:UInt8}{r:List UInt8}(h:Lf s (f::m::r))(hm:m.toNat<=6):(∀N,TV (f::m::r)=some N->GX s=(N,true))/\(TV (f::m::r)=none->(GX s).2=false):=by
 have h1:=h.next (k:=1) (by simp);have h2:=h1.next (k:=1) (by simp);have n1:s.num 1=f.toNat:=by rw[h.num (by simp),tH]
 have n2:(s.next 1).num 1=m.toNat:=by rw[h1.num (by simp)];exact tH m r
 have h2':Lf ((s.next 1).next 1) r:=by simpa using h2
 rw[rO];unfold GX;rw[if_pos hm,n1,n2,Nat.min_eq_left oM];by_cases hf:f.toNat=1
 .rw[if_pos hf,if_pos hf];obtain⟨a1,a2⟩:=GY m.toNat [] _ _ h2';cases hs:oK m.toNat [] r with
  |none=>exact⟨λN e=>(by cases e),λ_=>a2 hs⟩
  |some L=>
   obtain⟨b1,b2⟩:=a1 L hs;exact⟨λN e=>by cases e;rw[b1,b2],λe=>(by cases e)⟩
 .rw[if_neg hf,if_neg hf];obtain⟨a1,a2⟩:=GZ m.toNat [] _ _ h2';cases hs:oL m.toNat [] r with
  |none=>exact⟨λN e=>(by cases e),λ_=>a2 hs⟩
  |some L=>
   obtain⟨b1,b2⟩:=a1 L hs;exact⟨λN e=>by cases e;rw[b1,b2],λe=>(by cases e)⟩
theorem RS{s:bJ}{l:List UInt8}(h:Lf s l):(∀N,kS l=some N->iQ s=true/\qY s=N/\bI N=true)/\(kS l=none->iQ s=false):=by
 have hbad:(¬∃f m r,l=f::m::r/\m.toNat<=6)->iQ s=false:=λhn=>by
  cases hg:iQ s with
  |false=>rfl
  |true=>
   exfalso;unfold iQ at hg;simp only[Bool.and_eq_true,decide_eq_true_eq]at hg;have h6:=(iW (fQ hg.2.1).1).2.2;apply hn;refine⟨_,UInt8.ofNat (partsOf (GX s).1).length,(partsOf (GX s).1).flatMap vS,(by rw[<- h.hl,<- hg.2.2];rfl),?_⟩;rw[UInt8.toNat_ofNat'];omega
 by_cases hc:∃f m r,l=f::m::r/\m.toNat<=6
 .obtain⟨f,m,r,rfl,hm⟩:=hc;obtain⟨a1,a2⟩:=RQ h hm;unfold kS;cases hr:TV (f::m::r)with
  |none=>
   refine⟨λN e=>(by cases e),λ_=>?_⟩;unfold iQ;rw[a2 hr];rfl
  |some M=>
   have e:=a1 M hr;by_cases hok:bI M=true/\aJ M=f::m::r
   .have hg:iQ s=true:=by unfold iQ;rw[e];simp[hok,h.hl]
    simp only[if_pos hok];refine⟨λN e2=>?_,λe2=>(by cases e2)⟩;cases e2;exact⟨hg,by unfold qY;rw[if_pos hg,e],hok.1⟩
   .simp only[if_neg hok];refine⟨λN e2=>(by cases e2),λ_=>?_⟩;cases hg:iQ s with
    |false=>rfl
    |true=>
     exfalso;unfold iQ at hg;rw[e]at hg;simp only[Bool.and_eq_true,decide_eq_true_eq]at hg;exact hok ⟨hg.2.1,by rw[hg.2.2,h.hl]⟩
 .have hb:=hbad hc;refine⟨λN e=>?_,λ_=>hb⟩;exfalso;unfold kS at e;have:TV l=none:=by
   match l,hc with
   |[],_=>rfl
   |[_],_=>rfl
   |f::m::r,hc=>
    rw[rO,if_neg λhm=>hc ⟨f,m,r,rfl,hm⟩]
  rw[this]at e;cases e
def wB(s:Nat):Nat:=if s%2=1 then s/2 ^^^ 2197175160 else s/2
def mF:Nat->Nat->Nat
 |0,s=>s
 |k+1,s=>wB (mF k s)
def uX(s c:Nat):Nat:=mF 8 (s ^^^ c)
def nP(s:Nat)(l:List UInt8):Nat:=l.foldl (λs c=>uX s c.toNat) s
theorem Dw(s:Nat)(l:List UInt8)(c:UInt8):nP s (l++[c])=uX (nP s l) c.toNat:=by simp[nP]
theorem G6(s:Nat)(l m:List UInt8):nP s (l++m)=nP (nP s l) m:=by simp[nP]
theorem KX{a b:Nat}(ha:a<4294967296)(hb:b<4294967296):a ^^^ b<4294967296:=Nat.xor_lt_two_pow (n:=32) ha hb
theorem PG{s:Nat}(h:s<4294967296):wB s<4294967296:=by
 unfold wB;split
 .exact KX oM dC
 .omega
theorem xH{s:Nat}(h:s<4294967296):∀k,mF k s<4294967296
 |0=>h
 |k+1=>PG (xH h k)
theorem MW{s c:Nat}(h:s<4294967296)(hc:c<256):uX s c<4294967296:=xH (KX h oM) 8
theorem zo{s:Nat}(h:s<4294967296):∀l:List UInt8,nP s l<4294967296:=by
 intro l;induction l generalizing s with
 |nil=>exact h
 |cons c l ih=>exact ih (MW h c.toNat_lt)
theorem G8(k:IntKind)(j:Nat)(hj:j<=k.bits)(hk:∀n:Int,0<=n->n<2^j->k.wrap n=n)(a b:Nat)(ha:a<2^j)(hb:b<2^j):bits .xor k a b=((a ^^^ b:Nat):Int):=by
 have hp:2^j<=2^k.bits:=Nat.pow_le_pow_right dC hj;have ha':a%2^k.bits=a:=Nat.mod_eq_of_lt (Nat.lt_of_lt_of_le ha hp);have hb':b%2^k.bits=b:=Nat.mod_eq_of_lt (Nat.lt_of_lt_of_le hb hp);simp only[bits,BitVec.ofInt_natCast,BitVec.toNat_xor,BitVec.toNat_ofNat,ha',hb'];exact hk _ (Int.natCast_nonneg _) (by exact_mod_cast Nat.xor_lt_two_pow ha hb)
theorem rP{a b:Nat}(ha:a<4294967296)(hb:b<4294967296):bits .xor .u32 (a:Int) (b:Int)=((a ^^^ b:Nat):Int):=
 G8 .u32 32 dC (λn h0 h1=>by rw[IntKind.wrap_u32];omega) a b ha hb
theorem G9{a:Nat}(ha:a<4294967296):bits .and .u32 (a:Int) 1=((a%2:Nat):Int):=by
 have h:=(bits_nat .u32 32 dC (λn h0 h1=>by rw[IntKind.wrap_u32];omega) a 1 ha dC).1;rw[Nat.and_one_is_mod]at h;exact h
theorem He{a:Nat}(ha:a<4294967296):bits .xor .u32 ((a:Int)/2) 2197175160=((a/2 ^^^ 2197175160:Nat):Int):=by
 have h:=rP (a:=a/2) (b:=2197175160) oM dC;rw[show((a/2:Nat):Int)=(a:Int)/2 by omega]at h;exact h
theorem RU{s:Nat}(h:s<4294967296):4294967295 ^^^ s=4294967295-s:=by
 have h1:(BitVec.allOnes 32 ^^^ BitVec.ofNat 32 s).toNat=4294967295 ^^^ s:=by
  rw[BitVec.toNat_xor,BitVec.toNat_allOnes,BitVec.toNat_ofNat,Nat.mod_eq_of_lt (show s<2^32 from h)]
 rw[<- h1,BitVec.allOnes_xor,BitVec.toNat_not,BitVec.toNat_ofNat,Nat.mod_eq_of_lt (show s<2^32 from h)]
theorem Hf{s:Nat}(h:s<4294967296):bits .xor .u32 IntKind.u32.max (s:Int)=((4294967295-s:Nat):Int):=by
 rw[show IntKind.u32.max=((4294967295:Nat):Int)from rfl,rP dC h,RU h]
def yC(s x:Nat):Nat:=if s%2≠x then s/2 ^^^ 2197175160 else s/2
theorem PI{s x:Nat}(h:s<4294967296):yC s x<4294967296:=by
 unfold yC;split
 .exact KX oM dC
 .omega
def qE(s c:Nat):Nat->Nat
 |0=>s
 |k+1=>yC (qE s c k) (c/2^k%2)
theorem Dx{s c:Nat}(h:s<4294967296):∀k,qE s c k<4294967296
 |0=>h
 |k+1=>PI (Dx h k)
theorem RV(a b:Nat):(a ^^^ b)%2=if a%2=b%2 then 0 else 1:=by
 have h:=Nat.xor_mod_two_eq_one (a:=a) (b:=b);split<;>omega
theorem RX(a b:Nat):(a ^^^ b)/2=a/2 ^^^ b/2:=by
 apply Nat.eq_of_testBit_eq;intro i;rw[Nat.testBit_xor,Nat.testBit_div_two,Nat.testBit_div_two,Nat.testBit_div_two,Nat.testBit_xor]
theorem Ag(s c:Nat):∀k,mF k (s ^^^ c)=qE s c k ^^^ c/2^k
 |0=>by simp[mF,qE]
 |k+1=>by
  show wB (mF k (s ^^^ c))=yC (qE s c k) (c/2^k%2) ^^^ c/2^(k+1);rw[Ag s c k];generalize qE s c k=a;have hd:c/2^(k+1)=c/2^k/2:=by rw[Nat.pow_succ,Nat.div_div_eq_div_mul]
  rw[hd];generalize c/2^k=b;unfold wB yC;rw[RV,RX];by_cases h:a%2=b%2
  .rw[if_pos h,if_neg dC,if_neg oM]
  .rw[if_neg h,if_pos rfl,if_pos h,Nat.xor_assoc,Nat.xor_assoc,Nat.xor_comm (b/2)]
theorem Hg{s c:Nat}(hc:c<256):qE s c 8=uX s c:=by
 unfold uX;rw[Ag,show c/2^8=0 by omega,Nat.xor_zero]
def fC(s:Nat):List UInt8:=[UInt8.ofNat s,UInt8.ofNat (s/256),UInt8.ofNat (s/65536),UInt8.ofNat (s/16777216)]
theorem EL(s:Nat):u8s (fC s)=[.int .u8 ((s:Int)%256), .int .u8 ((s:Int)/256%256), .int .u8 ((s:Int)/65536%256), .int .u8 ((s:Int)/16777216%256)]:=by
 simp[u8s,fC]
def Dy(l:List UInt8):Nat:=4294967295-nP 4294967295 l
theorem Hl(l:List UInt8):Dy l<4294967296:=by unfold Dy;omega
end Go.Dav
namespace Go.Proofs.YtenmnhnlcnmloaaGreat
open Go.RowKit Go.Dav
attribute [local go_sem] Gives ite_val ay
theorem MX(s c p:Nat)(hs:s<4294967296)(hc:c<256)(w:World)(hp:Blk w p [.int .u32 (s:Int)] 271):
  Calls Tryz.prog 175 #[.pointer (some ⟨p,0,none⟩), .int .u8 (c:Int)] w λe w'=>e= .returned (.tuple #[])/\Blk w' p [.int .u32 (uX s c:Int)] 271/\Only p w w':=by
 have q:=hp.cells;have m:=hp.marks;have l:=hp.lt;have hx:=rP hs (show c<4294967296 by omega);have hxl:=KX hs (show c<4294967296 by omega);have HP:=Hd hp;have HXL:=Hd hxl;clear hp hxl;go_enter Tryz.func175,Tryz.ntmps175;go_wp2_with fail;go_loopg [16] 8 (λg ix wr=>∃k:Nat,k<=8/\g=8-k/\ix= .int .i64 k/\Blk wr p [.int .u32 (mF k (s ^^^ c):Int)] 271/\Only p w wr)
 case atStart=>exact⟨0,oM,rfl,rfl,HP.o.set 0 _,(by repeat (first|(with_reducible exact Only.refl _ _)|(with_reducible refine Only.set ?_ _ _)|(with_reducible refine Only.alloc ?_ _)|(with_reducible refine Only.drew ?_)))⟩
 case round=>
  obtain⟨k,hk,rfl,rfl,hb,ho⟩:=hrel;have hlt:=xH HXL.o k;obtain⟨x,hx1⟩:∃x,mF k (s ^^^ c)=x:=⟨_,rfl⟩;rw[hx1]at hb hlt;have HX1:=Hd hx1;have qk:=hb.cells;have mk:=hb.marks;have lk:=hb.lt;have HB:=Hd hb;have HO:=Hd ho;clear hb ho hx1 q m l hx;by_cases h8:k<8
  .have h8':(k:Int)<8:=oM;have ha:=G9 hlt;have hp:=He hlt;by_cases h1:x%2=1
   .have hv:mF (k+1) (s ^^^ c)=x/2 ^^^ 2197175160:=by
     show wB (mF k (s ^^^ c))=_;rw[HX1.o];unfold wB;rw[if_pos h1]
    have HV:=Hd hv;have h1':((x:Int)%2==1)=true:=by simp;omega
    rw[h1]at ha;clear hv;go_wp2_with fail;go_roundg (8-(k+1))
    case measure=>omega
    case rel=>exact⟨k+1,oM,rfl,by go_num,by rw[HV.o];exact(HB.o.set 0 _).set 0 _,(HO.o.set 0 _).set 0 _⟩
   .have hv:mF (k+1) (s ^^^ c)=x/2:=by
     show wB (mF k (s ^^^ c))=_;rw[HX1.o];unfold wB;rw[if_neg h1]
    have HV:=Hd hv;rw[show x%2=0 by omega]at ha;clear hv;go_wp2_with fail;go_roundg (8-(k+1))
    case measure=>omega
    case rel=>exact⟨k+1,oM,rfl,by go_num,by rw[HV.o,Int.natCast_ediv];exact HB.o.set 0 _,HO.o.set 0 _⟩
  .obtain rfl:k=8:=oM;clear h8;go_wp2;go_end0
   exact⟨rfl,by unfold uX;rw[HX1.o];exact HB.o,HO.o⟩
theorem EM(args:Array Value)(W:World):(callFunc 175 args).run Tryz.prog W= .ok (Next.enter 175 args) W:=kR
theorem yD(s:Nat)(a:Option Addr)(n c:Nat)(l:List UInt8)(hs:s<4294967296)(w:World)(hl:BytesAt w a n c l):
  Calls Tryz.prog 149 #[.int .u32 (s:Int), .slice a n c] w λe w'=>e= .returned (.int .u32 ((4294967295-nP (4294967295-s) l:Nat):Int))/\Below w.heap.size w w':=by
 have HL:=Hd hl;have hnf:=hl.hfew;have HS:=Hd hs;have aa1:(n:Int)<=140737488355328:=oM;obtain⟨g0,hg0⟩:∃g0,4294967295-s=g0:=⟨_,rfl⟩;have hgl:g0<4294967296:=oM;have hx:=Hf hs;rw[hg0]at hx;have HG:=Hd hg0;have HGL:=Hd hgl;have HB0:=Hd (Blk.new w [.int .u32 (g0:Int)] 271);clear hg0 hgl;have hen:=EM;clear hl hs hnf;go_enter Tryz.func149,Tryz.ntmps149;go_wp2_with fail;go_loopg [16] n (λg ix wr=>∃k:Nat,k<=n/\g=n-k/\ix= .int .i64 k/\Blk wr w.heap.size [.int .u32 (nP g0 (l.take k):Int)] 271/\Below w.heap.size w wr)
 case atStart=>exact⟨0,Nat.zero_le _,rfl,rfl,HB0.o,bW⟩
 case round=>
  obtain⟨k,hk,rfl,rfl,hb,hbl⟩:=hrel;have HB:=Hd hb;have HBL:=Hd hbl;have hlt:=zo HGL.o (l.take k);have HLT:=Hd hlt;obtain⟨x,hx1⟩:∃x,nP g0 (l.take k)=x:=⟨_,rfl⟩;have HX:=Hd hx1;rw[hx1]at hb;have qk:=hb.cells;have lk:=hb.lt;clear hb hbl hlt hx1 hx;by_cases hkn:k<n
  .obtain⟨y,hy⟩:∃y,l[k]? =some y:=⟨_,List.getElem?_eq_getElem (by have:=HL.o.hlen;omega)⟩;obtain⟨b,o,rfl,hb,hc⟩:=HL.o.hat k y hy;have hc':=(HBL.o.cell (p:=⟨b,o+k,none⟩) hb).trans hc;have hkn':(k:Int)<(n:Int):=oM;have HY:=Hd hy;clear hy hc hb;go_wp2_with fail;have hA:=MX (nP g0 (l.take k)) y.toNat w.heap.size HLT.o y.toNat_lt wr HB.o;with_reducible refine hA.mono ?_
   rintro e w' ⟨rfl,hb,ho⟩;go_wp2_with fail;go_roundg (n-(k+1))
   case measure=>omega
   case rel=>exact⟨k+1,oM,rfl,by go_num,by rw[List.take_add_one,HY.o,Option.toList_some,Dw];exact hb,gV HBL.o ho HBL.o.size (Nat.le_refl _)⟩
  .obtain rfl:k=n:=oM;have hkn':¬(k:Int)<(k:Int):=oM;have hx2:=Hf HLT.o;rw[HX.o]at hx2;have hle:l.take k=l:=List.take_of_length_le (by have:=HL.o.hlen;omega);have HE:=Hd (show 4294967295-x=4294967295-nP g0 l by rw[<- HX.o,hle]);obtain⟨z,hz⟩:∃z,4294967295-x=z:=⟨_,rfl⟩;rw[hz]at hx2;have HZ:=Hd hz;clear hz hle hkn;go_wp2;go_ret;exact⟨by rw[HG.o];first|rfl|(rw[<- HE.o,HZ.o];rfl),HBL.o⟩
theorem JG(a:Option Addr)(n c:Nat)(l:List UInt8)(w:World)(hl:BytesAt w a n c l):
  Calls Tryz.prog 150 #[.slice a n c] w λe w'=>e= .returned (.int .u32 ((4294967295-nP 4294967295 l:Nat):Int))/\Below w.heap.size w w':=by
 have hA:Calls Tryz.prog 149 #[.int .u32 0, .slice a n c] w _:=yD 0 a n c l oM w hl;have HA:=Hd hA;clear hA hl;go_enter Tryz.func150,Tryz.ntmps150;go_wp2_with fail;refine HA.o.mono ?_;rintro e w' ⟨rfl,hb⟩;go_wp2;go_ret;exact⟨rfl,hb⟩
theorem JH(s x:Nat)(hs:s<4294967296)(w:World):
  Calls Tryz.prog 183 #[.int .u32 (s:Int), .int .u32 (x:Int)] w λe w'=>e= .returned (.int .u32 (yC s x:Int))/\Below w.heap.size w w':=by
 have hp:=He hs;have HS:=Hd hs;have ht:((s:Int).tmod 2)=((s%2:Nat):Int):=by rw[Int.tmod_eq_emod_of_nonneg oM];omega
 have hq:(s:Int)/2%4294967296=((s/2:Nat):Int):=oM;rw[show(s:Int)/2=((s/2:Nat):Int) by omega]at hp;obtain⟨y,hy⟩:∃y,s/2=y:=⟨_,rfl⟩;obtain⟨z,hz⟩:∃z,s%2=z:=⟨_,rfl⟩;have hv:yC s x=if z≠x then y ^^^ 2197175160 else y:=by unfold yC;rw[hy,hz]
 have HV:=Hd hv;rw[hy]at hp hq;rw[hz]at ht;clear hs hy hz hv;by_cases h:z=x
 .have h':((z:Int) !=(x:Int))=false:=by simp[h]
  have HH:=Hd h;clear h;go_enter Tryz.func183,Tryz.ntmps183;go_wp2;go_ret;exact⟨by rw[HV.o,if_neg (λk=>k HH.o)];exact congrArg (λz=>Ending.returned (Value.int .u32 z)) hq,Below.refl _ _⟩
 .have h':((z:Int) !=(x:Int))=true:=by simp;omega
  have HH:=Hd h;clear h;go_enter Tryz.func183,Tryz.ntmps183;go_wp2;go_ret;exact⟨by rw[HV.o,if_pos HH.o];rfl,Below.refl _ _⟩
theorem Hq(s:Nat)(a:Option Addr)(n c:Nat)(l:List UInt8)(hs:s<4294967296)(w:World)(hl:BytesAt w a n c l):
  Calls Tryz.prog 176 #[.int .u32 (s:Int), .slice a n c] w λe w'=>e= .returned (.int .u32 (nP s l:Int))/\Below w.heap.size w w':=by
 have HL:=Hd hl;have hnf:=hl.hfew;have aa1:(n:Int)<=140737488355328:=oM;have HS:=Hd hs;clear hl hs hnf;go_enter Tryz.func176,Tryz.ntmps176;go_wp2_with fail;go_loopg [0,5] n (λg sx ix wr=>∃k:Nat,k<=n/\g=n-k/\ix= .int .i64 k/\sx= .int .u32 (nP s (l.take k):Int)/\Below w.heap.size w wr)
 case atStart=>exact⟨0,Nat.zero_le _,rfl,rfl,rfl,Below.refl _ _⟩
 case round=>
  obtain⟨k,hk,rfl,rfl,rfl,hbl⟩:=hrel;have HBL:=Hd hbl;have hlt:=zo HS.o (l.take k);obtain⟨x,hx1⟩:∃x,nP s (l.take k)=x:=⟨_,rfl⟩;have HX:=Hd hx1;rw[hx1]at hlt⊢;have HLT:=Hd hlt;clear hbl hlt hx1;by_cases hkn:k<n
  .obtain⟨y,hy⟩:∃y,l[k]? =some y:=⟨_,List.getElem?_eq_getElem (by have:=HL.o.hlen;omega)⟩;obtain⟨b,o,rfl,hb,hc⟩:=HL.o.hat k y hy;have hc':=(HBL.o.cell (p:=⟨b,o+k,none⟩) hb).trans hc;have hkn':(k:Int)<(n:Int):=oM;have HY:=Hd hy;clear hy hc hb;go_wp2_with fail;go_loopg [0,6,7] 8 (λg sx cx jx w2=>∃j:Nat,j<=8/\g=8-j/\jx= .int .i64 j/\sx= .int .u32 (qE x y.toNat j:Int)/\cx= .int .u32 ((y.toNat/2^j:Nat):Int)/\Below w.heap.size w w2)
   case atStart=>exact⟨0,oM,rfl,rfl,rfl,by have:=y.toNat_lt;simp;omega,HBL.o⟩
   case round=>
    obtain⟨j,hj,rfl,rfl,rfl,rfl,hb2⟩:=hrel;have HB2:=Hd hb2;have hlt:=Dx (c:=y.toNat) HLT.o j;have HRL:=Hd hlt;clear hb2 hlt;by_cases hj8:j<8
    .have acJ:(j:Int)<8:=oM;obtain⟨u,hu⟩:∃u,qE x y.toNat j=u:=⟨_,rfl⟩;obtain⟨v,hv⟩:∃v,y.toNat/2^j=v:=⟨_,rfl⟩;have hvl:v<256:=by rw[<- hv];exact Nat.lt_of_le_of_lt (Nat.div_le_self _ _) y.toNat_lt
     have h1:(v:Int).tmod 2=((v%2:Nat):Int):=by rw[Int.tmod_eq_emod_of_nonneg oM];omega
     have h2:(v:Int)/2%4294967296=((v/2:Nat):Int):=oM;have HU:=Hd hu;have HV:=Hd hv;rw[hu,hv];clear hu hv hvl hj;go_wp2_with fail;have hA:=JH u (v%2) (by rw[<- HU.o];exact HRL.o) wr;rw[show((v%2:Nat):Int)=(v:Int)%2 by omega]at hA;with_reducible refine hA.mono ?_
     rintro e w' ⟨rfl,hb⟩;go_wp2_with fail;go_roundg (8-(j+1))
     case measure=>omega
     case rel=>exact⟨j+1,oM,rfl,by go_num,by rw[<- HU.o,<- HV.o];rfl,by rw[Nat.pow_succ,<- Nat.div_div_eq_div_mul,HV.o];first|rfl|(congr 1;omega),HB2.o.trans (hb.mono HB2.o.size)⟩
    .obtain rfl:j=8:=oM;clear hj8 hj;go_wp2_with fail;go_roundg (n-(k+1))
     case measure=>omega
     case rel=>exact⟨k+1,oM,rfl,by go_num,by rw[List.take_add_one,HY.o,Option.toList_some,Dw,HX.o,Hg y.toNat_lt],HB2.o⟩
  .obtain rfl:k=n:=oM;have hkn':¬(k:Int)<(k:Int):=oM;have hle:l.take k=l:=List.take_of_length_le (by have:=HL.o.hlen;omega);have HE:=Hd (show x=nP s l by rw[<- HX.o,hle]);clear hle hkn;go_wp2;go_ret;exact⟨by rw[HE.o];rfl,HBL.o⟩
theorem Hr(s:Nat)(a:Option Addr)(n c:Nat)(l:List UInt8)(hs:s<4294967296)(w:World)(hl:BytesAt w a n c l):
  Calls Tryz.prog 154 #[.int .u32 (s:Int), .slice a n c] w λe w'=>e= .returned (.int .u32 ((4294967295-nP (4294967295-s) l:Nat):Int))/\Below w.heap.size w w':=by
 have h1:(4294967295-(s:Int))%4294967296=((4294967295-s:Nat):Int):=oM;have hA:=Hq (4294967295-s) a n c l oM w hl;have hlt:=zo (show 4294967295-s<4294967296 by omega) l;obtain⟨g,hg⟩:∃g,4294967295-s=g:=⟨_,rfl⟩;rw[hg]at h1 hA hlt⊢;obtain⟨x,hx⟩:∃x,nP g l=x:=⟨_,rfl⟩;rw[hx]at hA hlt⊢;have h2:(4294967295-(x:Int))%4294967296=((4294967295-x:Nat):Int):=oM;obtain⟨z,hz⟩:∃z,4294967295-x=z:=⟨_,rfl⟩;rw[hz]at h2⊢;have HA:=Hd hA;clear hA hl hs hlt hg hx hz;go_enter Tryz.func154,Tryz.ntmps154;go_wp2_with fail;refine HA.o.mono ?_;rintro e w' ⟨rfl,hb⟩;go_wp2;go_ret;exact⟨congrArg (λz=>Ending.returned (Value.int .u32 z)) h2,hb⟩
theorem Ht(s:Nat)(hs:s<4294967296)(w:World):
  Calls Tryz.prog 153 #[.int .u32 (s:Int)] w λe w'=>∃p,e= .returned (.slice (some ⟨p,0,none⟩) 4 4)/\w.heap.size<=p/\Blk w' p (u8s (fC s)) 5/\Below w.heap.size w w':=by
 have HS:=Hd hs;have t1:(s:Int).tmod 256=(s:Int)%256:=Int.tmod_eq_emod_of_nonneg oM;have t2:((s:Int)/256%4294967296).tmod 256=(s:Int)/256%256:=by rw[Int.tmod_eq_emod_of_nonneg oM];omega
 have t3:((s:Int)/65536%4294967296).tmod 256=(s:Int)/65536%256:=by rw[Int.tmod_eq_emod_of_nonneg oM];omega
 have t4:(s:Int)/16777216%4294967296=(s:Int)/16777216:=oM;clear hs;go_enter Tryz.func153,Tryz.ntmps153;go_wp2;go_ret;exact⟨_,rfl,Nat.le_refl _,by rw[EL];exact Blk.new _ _ _,bW⟩
end Go.Proofs.YtenmnhnlcnmloaaGreat

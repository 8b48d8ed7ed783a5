/- Walks: strokes and the. -/
import Derived.Test.YtggfdnopminemaaGreatDoorOutD
set_option linter.all false
namespace Go.Proofs.YtggfdnopminemaaGreatDoor
open Go.Proofs.Tryz
variable {eo:List Int} {c:Nat} {l:P.Dic} {et:Str} {u x:Go.Value} {v v' w:Go.World}
section
open Go Go.RowKit
set_option maxHeartbeats 8000000
set_option maxRecDepth 100000
theorem a5e (n:Int) (w:World) :
 Cz 78 #[.int .i64 n] w λe w'=>e=.returned (.bool (P.a0q n))/\w=w':=by
 go_enter func78,ntmps78
 go_wp2_with fail
 refine (a1x _ _ _ _).mono ?_
 rintro e w' ⟨rfl,rfl⟩
 go_wp2
 go_ret
 exact⟨a0a (by unfold P.a0q;simp),rfl⟩
abbrev b7k:Value:=.func (Fn.func 78) #[] #[]
abbrev notF (C:Nat):Value:=.func (Fn.func 284) #[] #[.pointer (some ⟨C,0,none⟩)]
theorem c9m (n:Int) (C:Nat) (w:World) (hf:w.cell? ⟨C,0,none⟩=some b7k) :
 Cz 284 #[.int .i64 n,.pointer (some ⟨C,0,none⟩)] w λe w'=>e=.returned (.bool (!P.a0q n))/\w=w':=by
 go_enter func284,ntmps284
 go_wp2_with fail
 refine (a5e _ _).mono ?_
 rintro e w' ⟨rfl,rfl⟩
 go_wp2
 go_ret
 exact⟨a0a sZ,rfl⟩
theorem d5i (u:Value) (l:List Int) (C:Nat) (w:World) (hu:IntR w u l) (hf:w.cell? ⟨C,0,none⟩=some b7k) :
 Cz 325 #[u,notF C] w λe w'=>(∃n:Int,e=.returned (.int .i64 n)/\decide (0<=n)=!(l.all P.a0q))/\w=w':=by
 have HU:=qh hu
 obtain⟨ad,cap,rfl,hl,_⟩:=hu
 go_enter func325,ntmps325
 go_wp2
 go_loop [5,8] (λ_ i=>∃j:Nat,j<=l.length/\i=.int .i64 j/\(l.take j).all P.a0q=true) (λ_ i=>l.length-(intOf i).toNat)
 case atStart=>exact⟨0,Nat.zero_le _,rfl,by simp⟩
 case round=>
  obtain⟨j,hj,rfl,ha⟩:=hrel;have HA:=qh ha;clear ha
  by_cases hlt:j<l.length
  .obtain⟨g,o,rfl,hg,c0⟩:=HU.o.at j hlt;have HSN:=qh (a0g l j hlt);generalize l[j]=x at *
   cases hx:P.a0q x
   .have HNO:=qh (show l.all P.a0q=false by
     rw [<-List.take_append_drop (j+1) l,HSN.o,List.all_append,List.all_append];simp [hx])
    go_wp2_with fail
    refine (c9m _ _ _ hf).mono ?_;rintro e w' ⟨rfl,rfl⟩;rw [hx];go_wp2;go_ret;exact⟨⟨(j:Int),rfl,by rw [HNO.o];simp⟩,rfl⟩
   .have HX:=qh hx
    go_wp2_with fail
    refine (c9m _ _ _ hf).mono ?_;rintro e w' ⟨rfl,rfl⟩;rw [hx];go_wp2;exact zq154
  .have HT:=qh (show l.all P.a0q=true by have:=HA.o;rwa [List.take_of_length_le oZ]at this);go_wp2;go_ret;exact⟨⟨-1,rfl,by rw [HT.o];rfl⟩,rfl⟩
theorem c3t (u:Value) (l:List Int) (C:Nat) (w:World) (hu:IntR w u l) (hf:w.cell? ⟨C,0,none⟩=some b7k) :
 Cz 283 #[u,notF C] w λe w'=>e=.returned (.bool (!(l.all P.a0q)))/\w=w':=by
 have HU:=qh hu
 obtain⟨ad,cap,rfl,hl,_⟩:=hu
 go_enter func283,ntmps283
 go_wp2_with fail
 refine (d5i _ l _ _ HU.o hf).mono ?_
 rintro e w' ⟨⟨n,rfl,hn⟩,rfl⟩
 have HN:=qh hn;clear hn
 go_wp2
 go_ret
 exact⟨a0a HN.o,rfl⟩
theorem c0c (u:Value) (l:List Int) (w:World) (hu:IntR w u l) :
 Cz 225 #[u,b7k] w λe w'=>e=.returned (.bool (l.all P.a0q))/\Bl w w':=by
 have HU:=qh (hu.below (bZ.alloc lZ (.cells #[b7k] 95)))
 obtain⟨ad,cap,rfl,hl,_⟩:=hu
 go_enter func225,ntmps225
 go_wp2_with fail
 refine (c3t _ l _ _ HU.o (by go_simp)).mono ?_
 rintro e w' ⟨rfl,rfl⟩
 go_wp2
 go_ret
 exact⟨a0a sZ,bZ.alloc lZ _⟩
theorem b0n (u:Value) (l:List Int) (w:World) (hu:IntR w u l) :
 Cz 200 #[u] w λe w'=>e=.returned (.bool (P.a0k l))/\Bl w w':=by
 have HU:=qh hu
 obtain⟨ad,cap,rfl,hl,_⟩:=hu
 cases h1:decide (1<=(l.length:Int)/\(l.length:Int)<=6)
 .have HF:=qh (show P.a0k l=false by unfold P.a0k;rw [h1];rfl)
  go_enter func200,ntmps200
  go_wp2_with (go_at_call 74;refine (a1x _ _ _ _).mono ?_;rintro e w' ⟨rfl,rfl⟩)
  go_ret;exact⟨a0a HF.o.symm,Below.refl _ _⟩
 .have HF:=qh (show P.a0k l=l.all P.a0q by unfold P.a0k;rw [h1];rfl)
  go_enter func200,ntmps200
  go_wp2_with (go_at_call 74;refine (a1x _ _ _ _).mono ?_;rintro e w' ⟨rfl,rfl⟩)
  refine (c0c _ l _ HU.o).mono ?_;rintro e w1 ⟨rfl,hb⟩;have HB:=qh hb;clear hb;go_wp2;go_ret;exact⟨a0a HF.o.symm,HB.o⟩
theorem a7m (t:Str) (w:World) (ht:t.length<=2^30) (hE:Env w) :
 Cz 201 #[.string (S t)] w λe w'=>e=.returned (.bool (P.a0o t).2)/\Bl w w':=by
 go_enter func201,ntmps201
 go_wp2_with fail
 refine (a4v _ _ ht hE).mono ?_
 rintro e w1 ⟨v,rfl,_,hb⟩
 have HB:=qh hb;clear hb
 generalize hok:(P.a0o t).2=ok at *
 have HK:=qh hok;clear hok
 go_wp2
 go_ret
 exact⟨a0a HK.o.symm,HB.o⟩
theorem a4u (u:Value) (l:List Int) (t:Str) (w:World) (hu:IntR w u l) (ht:t.length<=2^30) (hE:Env w) :
 Cz 128 #[.agg #[u,.string (S t)]] w λe w'=>e=.returned (.bool (P.entry (l,t)))/\Bl w w':=by
 have HU:=qh (hu.below (bZ.alloc lZ (.cells #[u,.string (S t)] 119)))
 obtain⟨ad,cap,rfl,_,_⟩:=hu
 have HE:=qh hE;clear hE
 have HF:Hq (P.entry (l,t)=(P.a0k l&&(P.a0o t).2)):=⟨rfl⟩
 go_enter func128,ntmps128
 go_wp2_with fail
 refine (b0n _ l _ HU.o).mono ?_
 rintro e w1 ⟨rfl,hb⟩
 obtain⟨hcc,_⟩:=a6a hb
 have hz:=c5a hb
 have c1:w1.cell? ⟨w.heap.size,1,none⟩=some (.string (S t)):=by rw [hcc _ _ sZ];go_simp
 have HE1:=qh ((HE.o.alloc (.cells #[.slice ad l.length cap,.string (S t)] 119)).below hb (HE.o.alloc _).size)
 have HB:=qh (((Below.refl w.heap.size w).alloc lZ (.cells #[.slice ad l.length cap,.string (S t)] 119)).trans (hb.mono sZ))
 clear hb hcc HU
 generalize P.a0k l=o at *
 cases o
 .exact e4f
 .go_wp2_with fail
  refine (a7m _ _ ht HE1.o).mono ?_;rintro e w2 ⟨rfl,hb⟩;have HB2:=bt HB hb;clear hb;go_wp2;go_ret;exact⟨a0a (by rw [HF.o];rfl),HB2.o⟩
theorem d5g (x y:Int) (w:World) :
 Cz 202 #[.int .i64 x,.int .i64 y] w λe w'=>e=.returned (.int .i64 (if x<y then -1 else if y<x then 1 else 0))/\w=w':=by
 refine (Tryz.cmp_Compare_int x y w).mono ?_
 rintro e w' ⟨rfl,rfl⟩
 refine⟨a2t ?_,rfl⟩
 unfold Lib.compareInt
 rcases Int.lt_trichotomy x y with h|h|h
 .simp [h]
 .subst h;simp
 .have h':¬x<y:=by omega
  simp [h,h']
theorem a7q (u v:Value) (a b:List Int) (w:World) (hu:IntR w u a) (hv:IntR w v b) :
 Cz 129 #[u,v] w λe w'=>e=.returned (.int .i64 (P.cmp a b))/\w=w':=by
 have HU:=qh hu;have HV:=qh hv
 obtain⟨ad,cap,rfl,hla,_⟩:=hu
 obtain⟨bd,dap,rfl,hlb,_⟩:=hv
 go_enter func129,ntmps129
 go_wp2
 go_loop [11] (λi=>∃j:Nat,j<=a.length/\j<=b.length/\i=.int .i64 j/\P.cmp a b=P.cmp (a.drop j) (b.drop j)) (λi=>a.length-(intOf i).toNat)
 case atStart=>exact⟨0,Nat.zero_le _,Nat.zero_le _,rfl,rfl⟩
 case round=>
  obtain⟨j,hja,hjb,rfl,hc⟩:=hrel;have HC:=qh hc;clear hc
  by_cases h1:j<a.length
  .obtain⟨g,o,hga,hgl,c0⟩:=HU.o.at j h1
   by_cases h2:j<b.length
   .obtain⟨g',o',hgb,hgl',d0⟩:=HV.o.at j h2;have HST:=qh (P.c8p h1 h2);subst hga hgb;generalize a[j]=x at *;generalize b[j]=y at *;have i2:¬(b.length:Int)<=(j:Int):=by omega
    rcases Int.lt_trichotomy x y with h|h|h
    .have HF:=qh (show P.cmp a b = -1 by rw [HC.o,HST.o,if_pos h])
     go_wp2_with (go_at_call 202;refine (d5g _ _ _).mono ?_;rintro e w' ⟨rfl,rfl⟩;rw [if_pos h])
     exact zq98
    .have n1:¬x<y:=by omega
     have n2:¬y<x:=by omega
     have HN:=qh (show P.cmp a b=P.cmp (a.drop (j+1)) (b.drop (j+1)) by rw [HC.o,HST.o,if_neg n1,if_neg n2]);clear h
     go_wp2_with (go_at_call 202;refine (d5g _ _ _).mono ?_;rintro e w' ⟨rfl,rfl⟩;rw [if_neg n1,if_neg n2])
     go_round
     case rel=>exact⟨j+1,by omega,by omega,by go_num,HN.o⟩
     case measure=>exact zq
    .have n1:¬x<y:=by omega
     have HF:=qh (show P.cmp a b=1 by rw [HC.o,HST.o,if_neg n1,if_pos h])
     go_wp2_with (go_at_call 202;refine (d5g _ _ _).mono ?_;rintro e w' ⟨rfl,rfl⟩;rw [if_neg n1,if_pos h])
     exact zq98
   .have HF:=qh (show P.cmp a b=1 by
     rw [HC.o,List.drop_eq_getElem_cons h1,List.drop_of_length_le (l:=b) oZ];rfl)
    have i2:(b.length:Int)<=(j:Int):=by omega
    subst hga;go_wp2;exact zq98
  .have k0:¬(j:Int)<(a.length:Int):=by omega
   by_cases h2:j<b.length
   .have HF:=qh (show P.cmp a b = -1 by
     rw [HC.o,List.drop_eq_getElem_cons h2,List.drop_of_length_le (l:=a) oZ];rfl)
    have k2:(a.length:Int)<(b.length:Int):=by omega
    go_wp2;exact zq98
   .have HF:=qh (show P.cmp a b=0 by
     rw [HC.o,List.drop_of_length_le (l:=a) oZ,List.drop_of_length_le (l:=b) oZ];rfl)
    have k2:¬(a.length:Int)<(b.length:Int):=by omega
    go_wp2;exact zq98
def K8 (w:World) (u:Value) (l:P.Dic) (c:Nat) (x:Value) (eo:List Int) (et:Str) (v:World):Prop:=
 v.cell? ⟨w.heap.size,0,none⟩=some u/\v.cell? ⟨c,0,none⟩=some x/\v.cell? ⟨c,1,none⟩=some (.string (S et))/\c<v.heap.size/\IntR v x eo/\Env v/\KD w u l v
theorem K8.step (h:K8 w u l c x eo et v) (hb:Bl v v'):K8 w u l c x eo et v':=by
 obtain⟨h1,h2,h3,h4,h5,h6,h7⟩:=h;exact⟨(h7.step hb).1,(hb.cell (p:=⟨c,0,none⟩) h4).trans h2,(hb.cell (p:=⟨c,1,none⟩) h4).trans h3,Nat.lt_of_lt_of_le h4 hb.size,h5.below hb,h6.below hb h6.size,h7.step hb⟩
def K9 (w:World) (u:Value) (l:P.Dic) (c:Nat) (x:Value) (eo:List Int) (et:Str) (g q:Nat) (y:Value) (po:List Int) (v:World):Prop:=
 v.cell? ⟨w.heap.size,0,none⟩=some u/\v.cell? ⟨c,0,none⟩=some x/\v.cell? ⟨c,1,none⟩=some (.string (S et))/\v.cell? ⟨g,q,none⟩=some y/\g<v.heap.size/\IntR v y po/\K8 w u l c x eo et v
theorem K9.step {g q:Nat} {y:Value} {po:List Int} (h:K9 w u l c x eo et g q y po v) (hb:Bl v v'):K9 w u l c x eo et g q y po v':=by
 obtain⟨h1,h2,h3,h4,h5,h6,h7⟩:=h;exact⟨(h7.step hb).1,(h7.step hb).2.1,(h7.step hb).2.2.1,(hb.cell (p:=⟨g,q,none⟩) h5).trans h4,Nat.lt_of_lt_of_le h5 hb.size,h6.below hb,h7.step hb⟩
theorem a1e (u:Value) (l:P.Dic) (w:World) (hu:EntR w u l) (ht:∀e∈l,e.2.length<=2^30) (hE:Env w) :
 Cz 62 #[.agg #[u]] w λe w'=>e=.returned (.bool (P.dic l))/\Bl w w':=by
 have K0:KD w u l (w.alloc (.cells #[u] 26)):=⟨by go_simp,by simp,hu.below (bZ.alloc lZ _),bZ.alloc lZ _⟩
 have HT:=qh ht;clear ht
 have HE0:=qh (hE.alloc (.cells #[u] 26));clear hE
 obtain⟨ad,cap,rfl,hl,_⟩:=hu
 go_enter func62,ntmps62
 go_wp2_with fail
 go_loopw [8] (λi wr=>∃j:Nat,j<=l.length/\i=.int .i64 j/\(l.take j).all P.entry=true/\P.rising (l.take j)=true/\KD w (.slice ad l.length cap) l wr/\Env wr) (λi _=>l.length-(intOf i).toNat)
 case atStart=>exact⟨0,Nat.zero_le _,rfl,by simp,rfl,K0,HE0.o⟩
 case round=>
  obtain⟨j,hj,rfl,ha,hr,K1,hE⟩:=hrel;clear K0 HE0;have HA:=qh ha;have HR:=qh hr;clear ha hr;have HK:=qh K1;obtain⟨d0,dz,hent,hbel⟩:=K1
  by_cases hlt:j<l.length
  .obtain⟨g,o,rfl,hg,x,c0,c1,hx⟩:=hent.at j hlt;have htl:=HT.o _ (List.getElem_mem hlt);have HSN:=qh (a0g l j hlt);have i1:(j:Int)<(l.length:Int):=by omega
   have HS0:=qh (show ∀t:TypeId,K8 w (.slice (some ⟨g,o,none⟩) l.length cap) l wr.heap.size x l[j].1 l[j].2 (wr.alloc (.cells #[x,.string (S l[j].2)] t)) from λt=>
    have hbb:Bl wr (wr.alloc (.cells #[x,.string (S l[j].2)] t)):=bZ.alloc lZ _
    ⟨(HK.o.step hbb).1,by go_simp,by go_simp,by simp,hx.below hbb,hE.alloc _,HK.o.step hbb⟩)
   have HS:Hq (K8 w (.slice (some ⟨g,o,none⟩) l.length cap) l wr.heap.size x l[j].1 l[j].2 (wr.alloc (.cells #[x,.string (S l[j].2)] 119)).drew):=⟨(HS0.o _).step bZ.drew⟩;have HBX:=qh ((Below.refl wr.heap.size wr).alloc lZ (.cells #[x,.string (S l[j].2)] 119));obtain⟨xd,xc,rfl,hxl,_⟩:=id hx
   cases hok:P.entry l[j]
   .have HNO:=qh (show l.all P.entry=false by
     rw [<-List.take_append_drop (j+1) l,HSN.o,List.all_append,List.all_append];simp [hok])
    have HND:=qh (show P.dic l=false by unfold P.dic;rw [HNO.o];simp);clear hent hbel hx hE HS0 HBX;generalize l[j]=en at *;obtain⟨eo,et⟩:=en;simp only at c1 htl HS;go_upto_region 4 with fail;refine zm69 ?_;intro hS0 K hK HS1 HX HE;go_simp;refine zm75 ?_;rintro e v ⟨rfl,hb⟩;rw [hok];refine zm55 ?_;intro hS1;clear hK K hb;refine zm0 ?_;refine tk1 2 hS1 ?_;refine tk1 3 hS1 ?_;refine tks 4 hS1 ?_;refine tks 5 hS1 ?_;refine tks 6 hS1 ?_;refine tks 7 hS1 ?_;refine tks 8 hS1 ?_;refine tks 9 hS1 ?_;refine tks 10 hS1 ?_;refine zm21 ?_;refine tks 18 hS1 ?_;refine tk1 19 hS1 ?_;refine wpAnyH_done kZ ?_ _;have HB:=qh (hS1.2.2.2.2.2.2.2.2.2);clear hS0 hS1 HS1;go_wp2;go_ret;exact⟨a0a (by rw [HND.o]),HB.o⟩
   .have HALL2:=qh (show (l.take (j+1)).all P.entry=true by rw [HSN.o,List.all_append,HA.o];simp [hok])
    by_cases hj0:j=0
    .have HR2:=qh (show P.rising (l.take (j+1))=true by rw [HSN.o];subst hj0;rfl);subst hj0;clear hent hbel hx hE HS0 HBX;generalize l[0]=en at *;obtain⟨eo,et⟩:=en;simp only [Nat.zero_mul,Nat.add_zero]at c0 c1 htl HS;go_upto_region 4 with fail;refine zm69 ?_;intro hS0 K hK HS1 HX HE;go_simp;refine zm75 ?_;rintro e v ⟨rfl,hb⟩;rw [hok];refine zm55 ?_;intro hS1;clear hK K hb;refine zm0 ?_;refine tk1 2 hS1 ?_;refine tk1 3 hS1 ?_;refine tk1 4 hS1 ?_;refine tk1 5 hS1 ?_;refine tk1 6 hS1 ?_;refine tks 7 hS1 ?_;refine tks 8 hS1 ?_;refine tks 9 hS1 ?_;refine tks 10 hS1 ?_;refine zm21 ?_;refine tk1 18 hS1 ?_;refine tk1 19 hS1 ?_;refine wpAnyH_done kZ ?_ _;have HK2:=qh (hS1.2.2.2.2.2);clear hS0 hS1 HS1;go_wp2;go_roundw
     case rel=>exact⟨0+1,by omega,by go_num,HALL2.o,HR2.o,HK2.o.2,HK2.o.1⟩
     case measure=>exact zq
    .obtain⟨g',o',hgg,_,y,p0,_,hy⟩:=hent.at (j-1) oZ;injection hgg with hgg;injection hgg with hg1 hg2 _;subst hg1 hg2
     have HS':=qh (show K9 w (.slice (some ⟨g,o,none⟩) l.length cap) l wr.heap.size (.slice xd l[j].1.length xc) l[j].1 l[j].2 g (o+(j-1)*2) y (l[j-1]'(by omega)).1 (wr.alloc (.cells #[.slice xd l[j].1.length xc,.string (S l[j].2)] 119)).drew from
      K9.step ⟨(HS0.o _).1,(HS0.o _).2.1,(HS0.o _).2.2.1,(HBX.o.cell (p:=⟨g,_,none⟩) hg).trans p0,Nat.lt_of_lt_of_le hg HBX.o.size,hy.below HBX.o,HS0.o _⟩ bZ.drew)
     have HCM:=qh (show P.rising (l.take (j+1))=true\/¬P.cmp (l[j-1]'(by omega)).1 l[j].1<0 from by
      by_cases hc:P.cmp (l[j-1]'(by omega)).1 l[j].1<0
      .exact zq125
      .exact .inr hc)
     have HCN:=qh (show ¬P.cmp (l[j-1]'(by omega)).1 l[j].1<0->P.dic l=false from by
      intro hc
      cases hr:P.rising l
      .unfold P.dic;rw [hr];simp
      .exfalso
       have:=P.c4c hr (j:=j-1) oZ;exact hc (by simpa [show j-1+1=j by omega] using this))
     have hj1:0<(j:Int):=by omega
     have hj2:1<=(j:Int):=by omega
     have hj3:0<j:=by omega
     have hw1:IntKind.i64.wrap ((j:Int)-1)=(j:Int)-1:=IntWalk.i64_in _ oZ;have hn3:¬(l.length:Int)<=(j:Int)-1:=by omega
     clear hent hbel hx hy HS hE HS0 HBX;generalize (l[j-1]'(by omega)).1=po at *;generalize l[j]=en at *;obtain⟨eo,et⟩:=en;simp only at c1 htl HS' HCM HCN
     rcases Int.lt_or_le (P.cmp po eo) 0 with hc|hc
     .have HR2:=qh (HCM.o.resolve_right λh=>h hc);go_upto_region 4 with fail;refine zm45 ?_;intro hS0 K hK HS1 HX HE;go_simp;refine zm75 ?_;rintro e v ⟨rfl,hb⟩;rw [hok];refine zm55 ?_;intro hS1;clear hK K hb;refine zm0 ?_;refine zm20 ?_;intro K hK HS2 HY HX2;go_simp;refine (a7q y (.slice xd eo.length xc) po eo _ HY.o HX2.o).mono ?_;rintro e v2 ⟨rfl,rfl⟩;refine hK.out _ _ HS2.o (λhS2=>?_);clear hK K;refine zm0 ?_;refine tk1 17 hS2 ?_;refine tk1 18 hS2 ?_;refine tk1 19 hS2 ?_;refine wpAnyH_done kZ ?_ _;have HK2:=qh (hS2.2.2.2.2.2.2.2.2.2.2.2);clear hS0 hS1 hS2 HS1 HS2;go_wp2;go_roundw
      case rel=>exact⟨j+1,by omega,by go_num,HALL2.o,HR2.o,HK2.o.2,HK2.o.1⟩
      case measure=>exact zq
     .have HNO:=qh (HCN.o oZ);go_upto_region 4 with fail;refine zm45 ?_;intro hS0 K hK HS1 HX HE;go_simp;refine zm75 ?_;rintro e v ⟨rfl,hb⟩;rw [hok];refine zm55 ?_;intro hS1;clear hK K hb;refine zm0 ?_;refine zm20 ?_;intro K hK HS2 HY HX2;go_simp;refine (a7q y (.slice xd eo.length xc) po eo _ HY.o HX2.o).mono ?_;rintro e v2 ⟨rfl,rfl⟩;refine hK.out _ _ HS2.o (λhS2=>?_);clear hK K;refine zm0 ?_;refine tk1 17 hS2 ?_;refine tk1 18 hS2 ?_;refine tk1 19 hS2 ?_;refine wpAnyH_done kZ ?_ _;have HK2:=qh (hS2.2.2.2.2.2.2.2.2.2.2.2);clear hS0 hS1 hS2 HS1 HS2;go_wp2;go_ret;exact⟨a0a (by rw [HNO.o]),HK2.o.2.2.2.2⟩
  .have hjl:j=l.length:=by omega
   subst hjl;have h1:=HA.o;have h2:=HR.o;rw [List.take_length]at h1 h2;have HD:=qh (show P.dic l=decide (l.length<=40) by unfold P.dic;rw [h1,h2];simp);clear h1 h2 hent
   by_cases h40:l.length<=40
   .have h40':(l.length:Int)<=40:=by omega
    go_wp2;go_ret;exact⟨a0a (by rw [HD.o,decide_eq_true h40]),hbel⟩
   .have h40':¬(l.length:Int)<=40:=by omega
    go_wp2;go_ret;exact⟨a0a (by rw [HD.o,decide_eq_false h40]),hbel⟩
end
end Go.Proofs.YtggfdnopminemaaGreatDoor

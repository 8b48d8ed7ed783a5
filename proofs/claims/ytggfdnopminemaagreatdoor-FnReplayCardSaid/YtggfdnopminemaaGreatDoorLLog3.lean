/- Walks: least edits. -/
import Derived.Test.YtggfdnopminemaaGreatDoorScrS4
import Derived.Test.YtggfdnopminemaaGreatDoorScrI9
set_option linter.all false
namespace Go.Proofs.YtggfdnopminemaaGreatDoor
open Go.Proofs.Tryz
open Go Go.RowKit
set_option maxRecDepth 100000
theorem b5n (a b:Str) (w:World) (ha:a.length<=2^30) (hb:b.length<=2^30) :
 Cz 234 #[.string (S a),.string (S b)] w (e1x (P.least a b) w):=by
 go_enter func234,ntmps234
 go_wp2
 go_loopw [5] (λi wr=>∃j:Nat,j<=a.length/\j<=b.length/\i=.int .i64 j/\a.take j=b.take j/\∃n,wr=(w.alloc (.cells #[.int .i64 0,.string (S [])] 55)).drewN n) (λi _=>a.length-(intOf i).toNat)
 case atStart=>exact⟨0,Nat.zero_le _,Nat.zero_le _,rfl,rfl,0,rfl⟩
 case round=>
  obtain⟨j,hj,hk,rfl,hpre,n,rfl⟩:=hrel;have HPRE:=qh hpre;have HSB:=qh (show (a.length-j:Nat)=(a.length:Int)-(j:Int) by omega);clear hpre
  by_cases h1:j<a.length
  .have i1:(j:Int)<(a.length:Int):=by omega
   by_cases h2:j<b.length
   .have i2:(j:Int)<(b.length:Int):=by omega
    by_cases h3:a[j]=b[j]
    .exact zq87
    .have f3:((((a[j]'h1).toNat:Nat):Int)==(((b[j]'h2).toNat:Nat):Int))=false:=by
      rw [beq_eq_false_iff_ne];intro h;exact h3 (UInt8.toNat_inj.1 oZ)
     have HL:=qh (P.b5z j a b HPRE.o oZ oZ (.inr (.inr ⟨h1,h2,h3⟩)));exact zq41
   .have i2:¬(j:Int)<(b.length:Int):=by omega
    have HL:=qh (P.b5z j a b HPRE.o oZ oZ (.inr (.inl oZ)));exact zq41
  .have i1:¬(j:Int)<(a.length:Int):=by omega
   have HL:=qh (P.b5z j a b HPRE.o oZ oZ (.inl oZ));exact zq41
theorem l1Most (a b:Int) (w:World):Cz 291 #[.int .i64 a,.int .i64 b] w λe w'=>e=.returned (.int .i64 (max a b))/\w'=w:=by
 go_enter func291,ntmps291
 by_cases h:b<a
 .have HM:=qh (show max a b=a by omega);go_wp2;go_ret;exact⟨by rw [HM.o];rfl,rfl⟩
 .have HM:=qh (show max a b=b by omega);go_wp2;go_ret;exact⟨by rw [HM.o];rfl,rfl⟩
theorem l1Has (u:Value) (l:List Int) (x:Int) (w:World) (hu:IntR w u l) :
 Cz 230 #[u,.int .i64 x] w λe w'=>e=.returned (.bool (l.contains x))/\w=w':=by
 have HU:=qh hu
 obtain⟨ad,cap,rfl,hl,_⟩:=hu
 go_enter func230,ntmps230
 go_wp2
 go_loop [5] (λi=>∃j:Nat,j<=l.length/\i=.int .i64 j/\(l.take j).contains x=false) (λi=>l.length-(intOf i).toNat)
 case atStart=>exact⟨0,Nat.zero_le _,rfl,by simp⟩
 case round=>
  obtain⟨j,hj,rfl,ha⟩:=hrel;have HA:=qh ha;clear ha
  by_cases hlt:j<l.length
  .obtain⟨g,o,hga,_,hc⟩:=HU.o.at j hlt;subst hga;have HSN:=qh (a0g l j hlt);have HMEM:=qh (List.getElem_mem hlt);generalize l[j]=y at *;have i1:(j:Int)<(l.length:Int):=by omega
   by_cases h:y=x
   .subst h;have HYES:Hq (decide (y∈l)=true):=⟨decide_eq_true HMEM.o⟩;go_wp2;go_ret;exact⟨by rw [HYES.o];rfl,rfl⟩
   .have i2:(y==x)=false:=by simpa using h
    have HNX:=qh (show (l.take (j+1)).contains x=false by
     rw [HSN.o];have h2:=HA.o;simp only [List.contains_eq_mem,decide_eq_false_iff_not,List.mem_append,List.mem_singleton,not_or]at h2⊢;exact⟨h2,λh3=>h h3.symm⟩)
    go_wp2
    go_round
    case rel=>exact⟨j+1,by omega,by go_num,HNX.o⟩
    case measure=>exact zq
  .have i1:¬(j:Int)<(l.length:Int):=by omega
   have HNO:=qh (show decide (x∈l)=false by
    have h:=HA.o;rw [List.take_of_length_le oZ]at h
    simpa using h)
   go_wp2;go_ret;exact⟨by rw [HNO.o];rfl,rfl⟩
set_option maxHeartbeats 8000000
theorem P.c8b {l:P.Dic} {st:List Int} (h1:P.dic l=true) (h2:P.a3n st=true):(P.a4l (P.a1b st (P.segA l st))).2=(P.scr l st).2/\((P.scr l st).2=true->(P.a4l (P.a1b st (P.segA l st))).1=(P.scr l st).1):=by
 have h:=P.c4s (P.a1b st (P.segA l st));have e:P.scr l st=P.render (P.a1b st (P.segA l st)):=by unfold P.scr;rw [h1,h2];rfl
 rw [e];exact⟨h.1,h.2.1⟩
theorem a5d (dv sv:Value) (l:P.Dic) (st:List Int) (w:World) (hu:EntR w dv l) (hs:IntR w sv st) (hm:Small l) :
 Cz 229 #[.agg #[dv],sv] w (a9u (P.scr l st) w):=by
 have hb0:Bl w (w.alloc (.cells #[dv] 26)):=bZ.alloc lZ _
 have HU:=qh (hu.below hb0);have HST:=qh (hs.below hb0);have HB0:=qh hb0
 have HX:=qh (DBx.new dv 26 w)
 clear hb0
 obtain⟨ad,cap,rfl,_,_⟩:=hu
 obtain⟨sd,sc,rfl,_,_⟩:=hs
 go_enter func229,ntmps229
 obtain⟨k0,_⟩:=HX.o
 go_wp2_with fail
 refine (b7x _ l _ HU.o hm.texts).mono ?_
 rintro e w1 ⟨rfl,hb⟩
 have HB1:=bt HB0 hb;have HST1:=qh (HST.o.below hb);have HU1:=qh (HU.o.below hb);have HX1:=qh (HX.o.below hb)
 clear hb k0
 obtain⟨q,hq⟩:∃q,P.dic l=q:=⟨_,rfl⟩
 have HQ:=qh hq
 rw [hq]
 clear hq
 cases q
 .have HN:=qh (show P.scr l st=([],false) by unfold P.scr;rw [HQ.o];rfl);go_wp2;go_ret2;exact⟨by rw [HN.o];rfl,HB1.o⟩
 .go_wp2_with fail
  refine (d1w _ st _ HST1.o).mono ?_;rintro e w2 ⟨rfl,rfl⟩;obtain⟨q,hq⟩:∃q,P.a3n st=q:=⟨_,rfl⟩;have HQ2:=qh hq;rw [hq];clear hq
  cases q
  .have HN:=qh (show P.scr l st=([],false) by unfold P.scr;rw [HQ.o,HQ2.o];rfl);go_wp2;go_ret2;exact⟨by rw [HN.o];rfl,HB1.o⟩
  .obtain⟨k0,_⟩:=HX1.o
   go_wp2_with fail
   refine (d3a _ _ l st _ HU1.o HST1.o HQ.o HQ2.o).mono ?_;rintro e w3 ⟨rfl,hb⟩;have HB3:=bt HB1 hb;have HE:=qh (P.c8b HQ.o HQ2.o);have HNO:=qh (P.scr_no (d:=l) (st:=st));clear hb k0;generalize P.a4l (P.a1b st (P.segA l st))=r at *;obtain⟨r1,r2⟩:=r
   cases r2
   .have HN:Hq (P.scr l st=([],false)):=⟨Prod.ext (HNO.o HE.o.1.symm) HE.o.1.symm⟩;go_wp2;go_ret2;exact⟨by rw [HN.o];rfl,HB3.o⟩
   .have HN:Hq (P.scr l st=(r1,true)):=⟨Prod.ext (HE.o.2 HE.o.1.symm).symm HE.o.1.symm⟩;go_wp2;go_ret2;exact⟨by rw [HN.o];rfl,HB3.o⟩
theorem c6m (dv sv:Value) (l:P.Dic) (st:List Int) (t:Str) (w:World) (hu:EntR w dv l) (hs:IntR w sv st) (hm:Small l) :
 Cz 163 #[.agg #[dv],a0y sv t] w λe w'=>e=.returned (.bool (P.trans l (st,t)))/\Bl w w':=by
 have hb0:Bl w ((w.alloc (.cells #[dv] 26)).alloc (.cells #[sv,.string (S t)] 35)):=((Below.refl w.heap.size w).alloc lZ _).alloc sZ _;have HU:=qh (hu.below hb0);have HST:=qh (hs.below hb0);have HB0:=qh hb0;refine zm95 ?_;intro HX;clear hb0;obtain⟨ad,cap,rfl,_,_⟩:=hu;obtain⟨sd,sc,rfl,_,_⟩:=hs;unfold a0y;go_enter func163,ntmps163;go_wp2_with fail;refine (a5d _ _ l st _ HU.o HST.o hm).mono ?_;rintro e w1 ⟨rfl,hb⟩;have HB1:=bt HB0 hb;have HST1:=qh (HST.o.below hb);have HX1:=qh (HX.o.below hb);have HP:Hq (P.trans l (st,t)=((P.scr l st).2&&((P.scr l st).1==t&&!st.contains 1024))):=⟨rfl⟩;clear hb;generalize P.scr l st=r at *;obtain⟨r1,r2⟩:=r;obtain⟨k0,k1,k2,_⟩:=HX1.o
 cases r2
 .go_wp2;go_ret;exact⟨by rw [HP.o];rfl,HB1.o⟩
 .go_wp2_with fail
  refine (l1Has _ st 1024 _ HST1.o).mono ?_;rintro e w2 ⟨rfl,rfl⟩;obtain⟨q,hq⟩:∃q,st.contains 1024=q:=⟨_,rfl⟩;rw [hq]at HP⊢;clear hq
  cases q
  .by_cases h:r1=t
   .subst h;go_wp2;go_ret;exact⟨by rw [HP.o];simp,HB1.o⟩
   .exact zq144
  .go_wp2;go_ret;exact⟨by rw [HP.o];simp,HB1.o⟩
end Go.Proofs.YtggfdnopminemaaGreatDoor
namespace Go.Proofs.YtggfdnopminemaaGreatDoor.L
open Go.Proofs.Tryz
open Go Go.RowKit
variable {B k:Nat} {l s x:Str} {v:Go.Value} {w:Go.World}
def EB:Nat:=max 0 5+1
def Env (w:World):Prop:=EB<=w.heap.size/\(∃m,w.cell? ⟨0,0,none⟩=some (.int .i64 m))/\Lib.TabIs Tryz.prog w "internal/strconv.uint64pow10" .u64 Lib.pow10Tab
theorem c6c:Tryz.prog.globalNamed "internal/strconv.uint64pow10"=some 5:=by kernel_rfl
theorem Env.size (h:Env w):EB<=w.heap.size:=h.1
theorem Env.below {w':World} (h:Env w) (hb:Below B w w') (hB:EB<=B):Env w':=by
 obtain⟨h1,⟨m,h2⟩,h3⟩:=h;refine⟨Nat.le_trans h1 hb.size,⟨m,?_⟩,?_⟩
 .rw [hb.cell (p:=⟨0,0,none⟩) (by show 0<B;unfold EB at hB;omega)];exact h2
 .exact var?_below hb c6c (by unfold EB at hB;omega) h3
theorem Env.alloc (h:Env w) (o:Obj):Env (w.alloc o):=
 h.below ((Below.refl w.heap.size _).alloc lZ o) h.1
theorem Env.drewN (h:Env w) (k:Nat):Env (w.drewN k):=
 h.below (below_drewN (Below.refl w.heap.size _) k) h.1
theorem b8g (c:Str) (w:World) (hc:c.length<=2^30) (ha:∀(j:Nat) (b:UInt8),c[j]?=some b->b.toNat<128) :
 Cz 135 #[.string (S c),.string ⟨#[35,62]⟩] w λe w'=>e=.returned (.bool (Lib.containsAny c [35,62]))/\Bl w w':=by
 have h:=Tryz.strings_ContainsAny_laid (S c) ⟨#[35,62]⟩ w (by rw [S_size];omega) dZ (by rw [S_dataList];exact ha)
  (by intro j b hb;match j,hb with|0,hb=>(simp at hb;subst hb;decide)|1,hb=>(simp at hb;subst hb;decide))
 rw [S_dataList]at h
 exact h
theorem a6d (n:Int) (w:World) (h0:0<=n) (h:n<4611686018427387904) (hE:Env w) :
 Cz 145 #[.int .i64 n] w λe w'=>e=.returned (.string (S (P.num n.toNat)))/\Bl w w':=by
 refine (Tryz.strconv_Itoa n oZ oZ w hE.2.2).mono ?_
 rintro e w' ⟨rfl,k,os,rfl⟩
 refine⟨?_,?_⟩
 .obtain⟨m,rfl⟩:=Int.eq_ofNat_of_zero_le h0;rw [show ((m:Nat):Int)=Int.ofNat m from rfl];exact a1v (Lib.itoa_nonneg m)
 .exact (below_drewN bZ k).trans ⟨rfl,rfl,rfl,by simp,λi hi=>Sort.heap_grow_old _ _ hi⟩
theorem e3b (s sep:Str) (w:World) (hs:s.length<=2^31) (hE:Env w) :
 Cz 69 #[.string (S s),.string (S sep)] w λe w'=>e=.returned (.tuple #[.string (S (Lib.cut s sep).1),.string (S (Lib.cut s sep).2.1),.bool (Lib.cut s sep).2.2])/\∃n,w'=w.drewN n:=by
 obtain⟨m,hm⟩:=hE.2.1
 have h:=Tryz.strings_Cut (S s) (S sep) m w (by rw [S_size];omega) hm
 rw [S_dataList,S_dataList]at h
 exact h
theorem b9s {v:World} {x y:Option Value} (h:v.cell? ⟨B,0,none⟩=x/\v.cell? ⟨B,1,none⟩=y/\B<v.heap.size/\Env v/\Below B w v):Below B w v:=h.2.2.2.2
theorem held2 {v v':World} {x y:Option Value} (h:v.cell? ⟨B,0,none⟩=x/\v.cell? ⟨B,1,none⟩=y/\B<v.heap.size/\Env v/\Below B w v) (hb:Bl v v') :
 v'.cell? ⟨B,0,none⟩=x/\v'.cell? ⟨B,1,none⟩=y/\B<v'.heap.size/\Env v'/\Below B w v':=
 ⟨(hb.cell (p:=⟨B,0,none⟩) h.2.2.1).trans h.1,(hb.cell (p:=⟨B,1,none⟩) h.2.2.1).trans h.2.1,Nat.lt_of_lt_of_le h.2.2.1 hb.size,h.2.2.2.1.below hb h.2.2.2.1.size,h.2.2.2.2.trans (hb.mono (Nat.le_of_lt h.2.2.1))⟩
theorem Env.dic (h:Env w):Go.Proofs.YtggfdnopminemaaGreatDoor.Env w:=⟨Nat.le_trans (by unfold Go.Proofs.YtggfdnopminemaaGreatDoor.EB EB;omega) h.1,h.2.1⟩
set_option maxHeartbeats 8000000
set_option maxRecDepth 100000
theorem a1x (n lo hi:Int) (w:World) :
 Cz 74 #[.int .i64 n,.int .i64 lo,.int .i64 hi] w λe w'=>e=.returned (.bool (decide (lo<=n/\n<=hi)))/\w=w':=by
 by_cases h1:lo<=n<;>by_cases h2:n<=hi
 all_goals
  go_enter func74,ntmps74
  go_wp2
  go_ret
  exact⟨a0a (by simp [h1,h2]),rfl⟩
theorem l1In (n lo hi:Int) (w:World) :
 Cz 187 #[.int .i64 n,.int .i64 lo,.int .i64 hi] w λe w'=>e=.returned (.bool (decide (lo<=n/\n<=hi)))/\w=w':=by
 by_cases h1:lo<=n<;>by_cases h2:n<=hi
 all_goals
  go_enter func187,ntmps187
  go_wp2
  go_ret
  exact⟨a0a (by simp [h1,h2]),rfl⟩
theorem d0a (l:Str) (k:Nat) (h:k<l.length) (c:UInt8):P.has (l.take (k+1)) c=(P.has (l.take k) c||(l[k]==c)):=by
 rw [a0g l k h];simp only [P.has,List.any_append,List.any_cons,List.any_nil,Bool.or_false]
theorem e1t {p:UInt8->Bool} (k:Nat) (h:k<l.length) (hp:p l[k]=true):l.any p=true:=
 List.any_eq_true.2 ⟨l[k],List.getElem_mem h,hp⟩
theorem b9p {p:UInt8->Bool} (k:Nat) (h:k<l.length) (hp:p l[k]=false):l.all p=false:=by
 rw [List.all_eq_false];exact⟨l[k],List.getElem_mem h,by simp [hp]⟩
theorem a8d {p:UInt8->Bool} (k:Nat) (h:k<l.length) (ha:(l.take k).all p=true) (hp:p l[k]=true):(l.take (k+1)).all p=true:=by
 rw [a0g l k h,List.all_append,ha];simp [hp]
@[go_sem] theorem u8_eq (a b : UInt8) : ((a.toNat : Int) == (b.toNat : Int)) = (a == b) := by
 exact zq163
theorem b5l (s:Str) (c:UInt8) (w:World) (hs:s.length<=maxLen) :
 Cz 165 #[.string (S s),.int .u8 c.toNat] w λe w'=>e=.returned (.bool (P.has s c))/\w=w':=by
 unfold maxLen at hs
 go_enter func165,ntmps165
 go_wp2
 go_loop [5] (λi=>∃k:Nat,k<=s.length/\i=.int .i64 k/\P.has (s.take k) c=false) (λi=>s.length-(intOf i).toNat)
 case atStart=>exact⟨0,by omega,rfl,by simp [P.has]⟩
 case round=>
  obtain⟨k,hk,rfl,ha⟩:=hrel;have HA:=qh ha;clear ha
  by_cases hlt:k<s.length
  .have HT:=qh (d0a s k hlt c);go_wp2
   .have h:(s[k]==c)=true:=by assumption
    go_ret;exact⟨a0a (e1t k hlt h).symm,rfl⟩
   .have h:(s[k]==c)=false:=by assumption
    go_round
    case rel=>exact⟨k+1,by omega,by go_num,by rw [HT.o,HA.o,h];rfl⟩
    case measure=>exact zq
  .go_wp2;go_ret;exact⟨a0a (by rw [<-HA.o,List.take_of_length_le oZ]),rfl⟩
theorem e4k (b:UInt8) (h:(b.toNat:Int)<32\/126<(b.toNat:Int)):(decide (32<=(b.toNat:Int))&&decide ((b.toNat:Int)<=126))=false:=by
 rw [Bool.and_eq_false_iff,decide_eq_false_iff_not,decide_eq_false_iff_not];omega
theorem e1z (b:UInt8) (h:32<=(b.toNat:Int)) (h2:(b.toNat:Int)<=126):(decide (32<=(b.toNat:Int))&&decide ((b.toNat:Int)<=126))=true:=by
 simp [h,h2]
theorem a3q (s:Str) (w:World) (hs:s.length<=maxLen) :
 Cz 134 #[.string (S s)] w λe w'=>e=.returned (.bool (P.printable s))/\w=w':=by
 unfold maxLen at hs
 go_enter func134,ntmps134
 go_wp2
 go_loop [3,6] (λ_ i=>∃k:Nat,k<=s.length/\i=.int .i64 k/\P.printable (s.take k)=true) (λ_ i=>s.length-(intOf i).toNat)
 case atStart=>exact⟨0,by omega,rfl,by simp [P.printable]⟩
 case round=>
  obtain⟨k,hk,rfl,ha⟩:=hrel;have HA:=qh ha;clear ha
  by_cases hlt:k<s.length
  .rcases Int.lt_or_le (s[k].toNat:Int) 32 with h1|h1
   .go_wp2;go_ret;exact⟨a0a (b9p k hlt (e4k _ (.inl h1))).symm,rfl⟩
   .rcases Int.lt_or_le 126 (s[k].toNat:Int) with h2|h2
    .go_wp2;go_ret;exact⟨a0a (b9p k hlt (e4k _ (.inr h2))).symm,rfl⟩
    .go_wp2
     go_round
     case rel=>exact⟨k+1,by omega,by go_num,a8d k hlt HA.o (e1z _ h1 h2)⟩
     case measure=>exact zq
  .go_wp2;go_ret;exact⟨a0a (by rw [<-HA.o,List.take_of_length_le oZ]),rfl⟩
theorem d0g (b:UInt8) (h:((b.toNat:Int)<32\/126<(b.toNat:Int))\/b=35):P.plainByte b=false:=by
 unfold P.plainByte
 rcases h with h|h
 .rw [e4k _ h];rfl
 .subst h;decide
theorem d4p (b:UInt8) (h:32<=(b.toNat:Int)) (h2:(b.toNat:Int)<=126) (h3:b≠35):P.plainByte b=true:=by
 unfold P.plainByte;rw [e1z _ h h2];simp [h3]
theorem c3x {b:UInt8} {n:Nat} (hn:n<256) (h:b≠UInt8.ofNat n):((b.toNat:Int)==(n:Int))=false:=by
 rw [beq_eq_false_iff_ne];intro e;apply h;apply UInt8.toNat_inj.1;rw [UInt8.toNat_ofNat_of_lt' hn];omega
theorem b5s (s:Str) (m:Int) (w:World) (hs:s.length<=maxLen) :
 Cz 164 #[.string (S s),.int .i64 m] w λe w'=>e=.returned (.bool (P.plain s m))/\w=w':=by
 unfold maxLen at hs
 go_enter func164,ntmps164
 go_wp2
 go_loop [5] (λi=>∃k:Nat,k<=s.length/\i=.int .i64 k/\(s.take k).all P.plainByte=true) (λi=>s.length-(intOf i).toNat)
 case atStart=>exact⟨0,by omega,rfl,by simp⟩
 case round=>
  obtain⟨k,hk,rfl,ha⟩:=hrel;have HA:=qh ha;clear ha
  by_cases hlt:k<s.length
  .rcases Classical.em (((s[k].toNat:Int)<32\/126<(s[k].toNat:Int))) with h|h
   .have hd:decide (32<=(s[k].toNat:Int)/\(s[k].toNat:Int)<=126)=false:=by rw [decide_eq_false_iff_not];omega
    have H:=qh h;clear h
    go_wp2_with (go_at_call 187;refine (l1In _ _ _ _).mono ?_;rintro e w' ⟨rfl,rfl⟩)
    go_ret;exact⟨a0a (by unfold P.plain;rw [b9p k hlt (d0g _ (.inl H.o))];rfl),rfl⟩
   .have h1:32<=(s[k].toNat:Int):=by omega
    have h2:(s[k].toNat:Int)<=126:=by omega
    clear h;have hd:decide (32<=(s[k].toNat:Int)/\(s[k].toNat:Int)<=126)=true:=by rw [decide_eq_true_iff];omega
    by_cases h3:s[k]=35
    .have h4:((s[k].toNat:Int)==35)=true:=by rw [h3];rfl
     have H3:=qh h3;clear h3
     go_wp2_with (go_at_call 187;refine (l1In _ _ _ _).mono ?_;rintro e w' ⟨rfl,rfl⟩)
     go_ret;exact⟨a0a (by unfold P.plain;rw [b9p k hlt (d0g _ (.inr H3.o))];rfl),rfl⟩
    .have h4:((s[k].toNat:Int)==35)=false:=c3x (n:=35) oZ h3;have H3:=qh h3;clear h3
     go_wp2_with (go_at_call 187;refine (l1In _ _ _ _).mono ?_;rintro e w' ⟨rfl,rfl⟩)
     go_round
     case rel=>exact⟨k+1,by omega,by go_num,a8d k hlt HA.o (d4p _ h1 h2 H3.o)⟩
     case measure=>exact zq
  .go_wp2;go_ret;exact⟨a0a (by unfold P.plain;rw [<-List.take_of_length_le (l:=s) (i:=k) oZ,HA.o,List.take_of_length_le oZ,Bool.true_and]),rfl⟩
theorem d9e (l:Str) (k:Nat) (h:k<l.length):P.sum (l.take (k+1))=(41*P.sum (l.take k)+l[k].toNat+1) % 999979:=by
 rw [a0g l k h];simp only [P.sum,List.foldl_append,List.foldl_cons,List.foldl_nil]
theorem c4i (l:Str):P.sum l<999979:=by
 suffices ∀(l:Str) (h:Nat),h<999979->l.foldl (λh b=>(41*h+b.toNat+1) % 999979) h<999979 from this l 7 oZ
 intro l;induction l with
 |nil=>intro h hh;exact hh
 |cons b l ih=>intro h hh;exact ih _ (Nat.mod_lt _ oZ)
theorem l1Sum (s:Str) (w:World) (hs:s.length<=maxLen) :
 Cz 255 #[.string (S s)] w λe w'=>e=.returned (.int .i64 (P.sum s))/\w=w':=by
 unfold maxLen at hs
 go_enter func255,ntmps255
 go_wp2
 go_loop [3,4] (λh i=>∃k:Nat,k<=s.length/\i=.int .i64 k/\h=.int .i64 (P.sum (s.take k))) (λ_ i=>s.length-(intOf i).toNat)
 case atStart=>exact⟨0,by omega,rfl,by simp [P.sum]⟩
 case round=>
  obtain⟨k,hk,rfl,rfl⟩:=hrel;have hb:=c4i (s.take k)
  by_cases hlt:k<s.length
  .exact zq107
  .go_wp2;go_ret;exact⟨a2t (by rw [List.take_of_length_le oZ]),rfl⟩
theorem d7u (n:Nat) (h:n<10):(List.take (n+1-n) (List.drop n [48,49,50,51,52,53,54,55,56,57]):List UInt8)=[UInt8.ofNat (48+n)]:=by
 match n,h with
 |0,_=>rfl|1,_=>rfl|2,_=>rfl|3,_=>rfl|4,_=>rfl|5,_=>rfl|6,_=>rfl|7,_=>rfl|8,_=>rfl|9,_=>rfl
def e2s (n:Nat) (w:World) (e:Ending) (w':World):Prop:=e=.returned (.string (S (P.num n)))/\∃k,w'=w.drewN k
theorem c2j (n:Nat) (h:n<10):Lib.decDigits n=List.take 1 (List.drop n [48,49,50,51,52,53,54,55,56,57]):=by
 rw [Lib.decDigits_one h,<-d7u n h,show n+1-n=1 from by omega]
theorem e4c (n:Nat) (h:¬n<10):Lib.decDigits n=Lib.decDigits (n / 10)++List.take 1 (List.drop (n % 10) [48,49,50,51,52,53,54,55,56,57]):=by
 rw [<-c2j _ (Nat.mod_lt _ oZ),Lib.decDigits_one (Nat.mod_lt _ oZ)];rw [Lib.decDigits,dif_neg h]
theorem d3y (n:Nat):∀(w:World),n<2^62 ->
 Cz 197 #[.int .i64 n] w (e2s n w):=by
 induction n using Nat.strongRecOn with
 |_ n ih=>
  intro w hn
  have ih2:∀m:Int,0<=m->m<n->∀w:World,Cz 197 #[.int .i64 m] w λe w'=>e=.returned (.string (S (P.num m.toNat)))/\∃k,w'=w.drewN k:=λm h0 hm w=>by
   obtain⟨k,rfl⟩:=Int.eq_ofNat_of_zero_le h0;exact ih k oZ w oZ
  have HI:=qh ih2;clear ih ih2
  by_cases h:n<10
  .have HD:=qh (c2j n h)
   go_enter func197,ntmps197
   go_wp2_with fail
   go_ret;exact⟨a1v (by unfold P.num;exact HD.o.symm),0,rfl⟩
  .have HD:=qh (e4c n h);have HQ:=qh (show ((n:Int) / 10).toNat=n / 10 by omega);have hl3:(P.num ((n:Int) / 10).toNat).length<=20:=by rw [HQ.o];exact P.num_len _ oZ
   go_enter func197,ntmps197
   go_wp2_with fail
   go_quiet ((go_at_call 197;exact Calls.quiet_of (HI.o _ oZ oZ _)))
   go_wp2;go_ret;exact⟨a1v (by unfold P.num;exact HD.o.symm),_,rfl⟩
theorem c1a (n:Int) (w:World) (h0:0<=n) (h:n<4611686018427387904) :
 Cz 197 #[.int .i64 n] w λe w'=>e=.returned (.string (S (P.num n.toNat)))/\∃k,w'=w.drewN k:=by
 obtain⟨m,rfl⟩:=Int.eq_ofNat_of_zero_le h0
 exact d3y m w oZ
theorem c1p (s:Str) (w:World) (hs:s.length<=maxLen) :
 Cz 277 #[.string (S s)] w λe w'=>e=.returned (.tuple #[.int .i64 (if (s.length:Int)<=4000 then P.sum s else 0),.bool (decide ((s.length:Int)<=4000))])/\w=w':=by
 unfold maxLen at hs
 by_cases h4:(s.length:Int)<=4000
 .rw [if_pos h4,decide_eq_true h4]
  go_enter func277,ntmps277
  go_wp2
  go_loop [4,5,11] (λh _ i=>∃k:Nat,k<=s.length/\i=.int .i64 k/\h=.int .i64 (P.sum (s.take k))) (λ_ _ i=>s.length-(intOf i).toNat)
  case atStart=>exact⟨0,by omega,rfl,by simp [P.sum]⟩
  case round=>
   obtain⟨k,hk,rfl,rfl⟩:=hrel;have hb:=c4i (s.take k)
   by_cases hlt:k<s.length
   .exact zq107
   .go_wp2;go_ret2;exact⟨by rw [List.take_of_length_le (l:=s) (i:=k) oZ];rfl,rfl⟩
 .rw [if_neg h4,decide_eq_false h4]
  go_enter func277,ntmps277
  go_wp2;go_ret2;exact⟨rfl,rfl⟩
theorem l1Seal (s:Str) (w:World) (hs:s.length<=2^62) :
 Cz 196 #[.string (S s)] w λe w'=>e=.returned (.string (S (P.sealed s)))/\∃k,w'=w.drewN k:=by
 have hl:=c4i s
 have hl2:=P.num_len (P.sum s) oZ
 go_enter func196,ntmps196
 go_wp2_with (first|(go_at_call 255;refine (l1Sum _ _ (by unfold maxLen;omega)).mono ?_;rintro e w' ⟨rfl,rfl⟩)|(go_at_call 197;refine (c1a _ _ oZ oZ).mono ?_;rintro e w' ⟨rfl,k,rfl⟩;rw [Int.toNat_natCast]))
 go_ret
 exact⟨a1v (by simp [P.sealed,P.num]),_,rfl⟩
theorem b3z (c r:Str) (w:World) (hc:c.length<=maxLen) (hr:r.length<=maxLen) :
 Cz 94 #[.agg #[.string (S c),.string (S r)]] w λe w'=>e=.returned (.bool (P.good c r))/\Bl w w':=by
 cases h1:c.isEmpty
 .cases h2:P.plain c 90
  .go_enter func94,ntmps94
   go_wp2_with (first|(go_at_call 164;refine (b5s _ _ _ (by assumption)).mono ?_;rintro e w' ⟨rfl,rfl⟩)|(go_at_call 165;refine (b5l _ 62 _ (by assumption)).mono ?_;rintro e w' ⟨rfl,rfl⟩))
   go_ret;exact⟨a0a (by simp [P.good,h2]),bZ.alloc lZ _⟩
  .cases h3:P.has c 62
   .cases h4:P.plain r 200
    all_goals
     go_enter func94,ntmps94
     go_wp2_with (first|(go_at_call 164;refine (b5s _ _ _ (by assumption)).mono ?_;rintro e w' ⟨rfl,rfl⟩)|(go_at_call 165;refine (b5l _ 62 _ (by assumption)).mono ?_;rintro e w' ⟨rfl,rfl⟩))
     go_ret
     exact⟨a0a (by simp [P.good,h1,h2,h3,h4]),bZ.alloc lZ _⟩
   .go_enter func94,ntmps94
    go_wp2_with (first|(go_at_call 164;refine (b5s _ _ _ (by assumption)).mono ?_;rintro e w' ⟨rfl,rfl⟩)|(go_at_call 165;refine (b5l _ 62 _ (by assumption)).mono ?_;rintro e w' ⟨rfl,rfl⟩))
    go_ret;exact⟨a0a (by simp [P.good,h3]),bZ.alloc lZ _⟩
 .go_enter func94,ntmps94
  go_wp2_with (first|(go_at_call 164;refine (b5s _ _ _ (by assumption)).mono ?_;rintro e w' ⟨rfl,rfl⟩)|(go_at_call 165;refine (b5l _ 62 _ (by assumption)).mono ?_;rintro e w' ⟨rfl,rfl⟩))
  go_ret;exact⟨a0a (by simp [P.good,h1]),bZ.alloc lZ _⟩
theorem d2i (s:Str):(P.sealed s).length<=s.length+21:=by
 have hl:=c4i s;have hl2:=P.num_len (P.sum s) oZ;simp [P.sealed];omega
theorem d3t (k:Int) (c r:Str) (w:World) (h0:0<=k) (hk:k<1000) (hc:c.length<=2^40) (hr:r.length<=2^40) :
 Cz 122 #[.int .i64 k,.agg #[.string (S c),.string (S r)]] w λe w'=>e=.returned (.string (S (P.line k.toNat c r)))/\Bl w w':=by
 have hn:=P.num_len k.toNat oZ
 have hs:=d2i (P.num k.toNat++32::(c++62::r))
 simp only [List.length_append,List.length_cons]at hs
 go_enter func122,ntmps122
 go_wp2_with fail
 go_quiet ((first|(go_at_call 197;exact Calls.quiet_of (c1a _ _ oZ oZ))|(go_at_call 196;exact Calls.quiet_of (l1Seal _ _ (by simp;omega)))))
 go_wp2
 go_ret
 exact⟨a1v (by simp [P.line]),below_drewN (bZ.alloc lZ _) _⟩
theorem e0a {c:Str} (h:P.printable c=true):∀(j:Nat) (b:UInt8),c[j]?=some b->b.toNat<128:=by
 intro j b hb;have:=List.all_eq_true.1 h b (List.mem_of_getElem? hb);simp at this;omega
theorem a3h (c r:Str) (w:World) (hc:c.length<=2^30) (hr:r.length<=2^30) :
 Cz 68 #[.agg #[.string (S c),.string (S r)]] w λe w'=>e=.returned (.bool (P.vrec c r))/\Bl w w':=by
 have hc':c.length<=maxLen:=by unfold maxLen;omega
 have hr':r.length<=maxLen:=by unfold maxLen;omega
 cases h1:decide (1<=(c.length:Int)/\(c.length:Int)<=90)
 .go_enter func68,ntmps68
  go_wp2_with (first|(go_at_call 74;refine (a1x _ _ _ _).mono ?_;rintro e w' ⟨rfl,rfl⟩))
  go_ret;exact⟨a0a (by simp only [P.vrec,h1,Bool.false_and]),bZ.alloc lZ _⟩
 .cases h2:P.printable c
  .go_enter func68,ntmps68
   go_wp2_with (first|(go_at_call 74;refine (a1x _ _ _ _).mono ?_;rintro e w' ⟨rfl,rfl⟩)|(go_at_call 134;refine (a3q _ _ (by assumption)).mono ?_;rintro e w' ⟨rfl,rfl⟩))
   go_ret;exact⟨a0a (by simp only [P.vrec,h1,h2,Bool.false_and,Bool.true_and]),bZ.alloc lZ _⟩
  .have HA:=qh (e0a h2)
   cases h3:Lib.containsAny c [35,62]<;>cases h4:decide ((r.length:Int)<=200)<;>cases h5:P.printable r<;>cases h6:Lib.contains r [35]
   all_goals
    go_enter func68,ntmps68
    go_wp2_with (first|(go_at_call 74;refine (a1x _ _ _ _).mono ?_;rintro e w' ⟨rfl,rfl⟩)|(go_at_call 134;refine (a3q _ _ (by assumption)).mono ?_;rintro e w' ⟨rfl,rfl⟩)|(go_at_call 135;refine (b8g _ _ hc HA.o).mono ?_;rintro e w' ⟨rfl,hb⟩;obtain⟨hcc,hff⟩:=a6a hb;have HB:=qh hb;clear hb)|(go_at_call 136;refine (contains_one _ 35 _).mono ?_;rintro e w' ⟨rfl,rfl⟩))
    go_ret
    exact⟨a0a (by simp only [P.vrec,h1,h2,h3,h4,h5,h6,Bool.and_true,Bool.and_false,Bool.not_true,Bool.not_false]),(bZ.alloc lZ _).trans (HB.o.mono sZ)⟩
theorem appendChecksum (s:Str) (w:World) (hs:s.length<=2^30) (hE:Env w) :
 Cz 219 #[.string (S s)] w λe w'=>e=.returned (.tuple #[.string (S (P.appendChecksum s).1),.bool (P.appendChecksum s).2])/\Bl w w':=by
 have hs':s.length<=maxLen:=by unfold maxLen;omega
 have HE:=qh hE;clear hE
 have hl:=c4i s
 have hl2:=P.num_len (P.sum s) oZ
 by_cases h1:(s.length:Int)<=4000
 .have hp:P.sealed s=s++35::P.num (P.sum s):=rfl;have hps:(P.sealed s).length=s.length+((P.num (P.sum s)).length+1):=by rw [hp];simp
  have HP:=qh hp;clear hp;have HPS:=qh hps;clear hps;have hd1:decide ((s.length:Int)<=4000)=true:=decide_eq_true h1;have HD1:=qh hd1;clear hd1
  cases h2:Lib.contains s [35]
  .by_cases h3:(s.length:Int)+(((P.num (P.sum s)).length:Int)+1)<=4000
   .have HF:=qh (show P.appendChecksum s=(P.sealed s,true) by unfold P.appendChecksum P.sealable;rw [HD1.o,h2,HPS.o,decide_eq_true oZ];rfl);have H1:=qh h1;clear h1;have h3':(s.length:Int)+((P.num (P.sum s)).length:Int)<4000:=by omega
    clear h3
    go_enter func219,ntmps219
    go_wp2_with (first|(go_at_call 277;refine (c1p _ _ hs').mono ?_;rintro e w' ⟨rfl,rfl⟩;rw [if_pos H1.o,HD1.o])|(go_at_call 145;refine (a6d _ _ oZ oZ HE.o).mono ?_;rintro e w' ⟨rfl,hb⟩;have HB:=qh hb;clear hb;rw [Int.toNat_natCast])|(go_at_call 136;refine (contains_one _ 35 _).mono ?_;rintro e w' ⟨rfl,rfl⟩))
    go_ret2;exact⟨by rw [HF.o,HP.o];rfl,HB.o⟩
   .have h3':=Int.not_le.1 h3;clear h3;have HF:=qh (show P.appendChecksum s=([],false) by unfold P.appendChecksum P.sealable;rw [HD1.o,h2,HPS.o,decide_eq_false oZ];rfl);exact zq61
  .have HF:=qh (show P.appendChecksum s=([],false) by unfold P.appendChecksum P.sealable;rw [HD1.o,h2];rfl);exact zq61
 .have HF:=qh (show P.appendChecksum s=([],false) by unfold P.appendChecksum P.sealable;rw [decide_eq_false h1];rfl);have h0:=P.num_len 0 oZ;have hd1:decide ((s.length:Int)<=4000)=false:=decide_eq_false h1;have HD1:=qh hd1;clear hd1
  go_enter func219,ntmps219
  go_wp2_with (first|(go_at_call 277;refine (c1p _ _ hs').mono ?_;rintro e w' ⟨rfl,rfl⟩;rw [if_neg h1,HD1.o])|(go_at_call 145;refine (a6d _ _ oZ oZ HE.o).mono ?_;rintro e w' ⟨rfl,hb⟩;have HB:=qh hb;clear hb;rw [show (0:Int).toNat=0 from rfl])|(go_at_call 136;refine (contains_one _ 35 _).mono ?_;rintro e w' ⟨rfl,rfl⟩))
  go_ret2;exact⟨by rw [HF.o];rfl,HB.o⟩
theorem b2c (s:Str):(P.appendChecksum s).1.length<=4000:=by
 unfold P.appendChecksum
 cases h:P.sealable s
 .simp
 .unfold P.sealable at h;simp only [Bool.and_eq_true,decide_eq_true_eq]at h;have:=h.2.2
  show (P.sealed s).length<=4000
  omega
theorem b5d (k:Int) (c r:Str) (w:World) (hc:c.length<=2^28) (hr:r.length<=2^28) (hE:Env w) :
 Cz 147 #[.int .i64 k,.agg #[.string (S c),.string (S r)]] w λe w'=>e=.returned (.tuple #[.string (S (P.encode k c r).1),.bool (P.encode k c r).2])/\Bl w w':=by
 have HE:=qh hE;clear hE
 cases h1:decide (0<=k/\k<=59)
 .have HF:=qh (show P.encode k c r=([],false) by unfold P.encode;rw [h1];rfl)
  go_enter func147,ntmps147
  go_wp2_with (go_at_call 74;refine (a1x _ _ _ _).mono ?_;rintro e w' ⟨rfl,rfl⟩)
  go_ret2;exact⟨by rw [HF.o];rfl,bZ.alloc lZ _⟩
 .have hk:=of_decide_eq_true h1;obtain⟨hk0,hk1⟩:=hk
  cases h2:P.vrec c r
  .have HF:=qh (show P.encode k c r=([],false) by unfold P.encode;rw [h1,h2];rfl)
   go_enter func147,ntmps147
   go_wp2_with (first|(go_at_call 74;refine (a1x _ _ _ _).mono ?_;rintro e w' ⟨rfl,rfl⟩)|(go_at_call 68;refine (a3h _ _ _ oZ oZ).mono ?_;rintro e w' ⟨rfl,hb⟩;have HB:=qh hb;clear hb))
   exact e3j
  .have HF:=qh (show P.encode k c r=((P.appendChecksum (P.num k.toNat++32::(c++62::r))).1++[10],true) by unfold P.encode;rw [h1,h2];rfl);have hn:=P.num_len k.toNat oZ;have hl:=b2c (P.num k.toNat++32::(c++62::r))
   go_enter func147,ntmps147
   go_wp2_with (first|(go_at_call 74;refine (a1x _ _ _ _).mono ?_;rintro e w' ⟨rfl,rfl⟩)|(go_at_call 68;refine (a3h _ _ _ oZ oZ).mono ?_;rintro e w' ⟨rfl,hb⟩;have HB:=qh hb;clear hb))
   have hb:=HB.o;have hc0:w'.cell? ⟨w.heap.size,0,none⟩=some (.string (S c)):=by rw [hb.cell (p:=⟨w.heap.size,0,none⟩) sZ];go_simp
   have hc1:w'.cell? ⟨w.heap.size,1,none⟩=some (.string (S r)):=by rw [hb.cell (p:=⟨w.heap.size,1,none⟩) sZ];go_simp
   have hsz:w.heap.size<w'.heap.size:=by have:=hb.size;simp at this;omega
   have hE1:Env w':=(HE.o.alloc _).below hb (HE.o.alloc _).size;have hb1:Bl w w':=(bZ.alloc lZ _).trans (hb.mono sZ);clear hb;have f1:¬9223372036854775807<(P.num k.toNat).length+1:=by omega
   have f2:¬9223372036854775807<(P.num k.toNat).length+1+c.length:=by omega
   have f3:¬9223372036854775807<(P.num k.toNat).length+(c.length+1)+1:=by omega
   have f4:¬9223372036854775807<(P.num k.toNat).length+(c.length+1+1)+r.length:=by omega
   go_region_held3 (λv=>v.cell? ⟨w.heap.size,0,none⟩=some (.string (S c))/\v.cell? ⟨w.heap.size,1,none⟩=some (.string (S r))/\w.heap.size<v.heap.size/\Env v/\Bl w v) (first|assumption|exact⟨hc0,hc1,hsz,hE1.drewN 1,below_drewN hb1 1⟩|exact held2 (by assumption) hb)
    (first|(go_at_call 145;refine (a6d _ _ oZ oZ ?_).mono ?_;exact (by assumption:_/\_/\_/\Env _/\_).2.2.2.1;rintro e v ⟨rfl,hb⟩)|(go_at_call 219;refine (appendChecksum _ _ (by simp;omega) ?_).mono ?_;exact (by assumption:_/\_/\_/\Env _/\_).2.2.2.1;rintro e v ⟨rfl,hb⟩))
   have hx:Bl w v:=b9s (by assumption);have HX:=qh hx;clear hx f1 f2 f3 f4;go_wp2;go_ret2;exact⟨by rw [HF.o];rfl,HX.o⟩
theorem b2f:(Tryz.prog.info? 9).map (λi=>(i.zero,i.size,i.bytes))=some (some (.string ⟨#[]⟩),1,16):=by kernel_rfl
theorem a0x.snoc {l:List Str} (h:w.ownsRow B 9 1 v (l.length+1) (a3z l++[.string (S x)])):a0x B w v (l++[x]):=by
 unfold a0x;rw [List.length_append];simpa [a3z] using h
theorem b3j {w1 w2:World} {v':Value} {l:List Str} {o:Obj} (hsz:w.heap.size<=w1.heap.size) (hown:a0x w.heap.size w1 v l) (hb:Bl w w1)
 (h:w2.ownsRow w.heap.size 9 1 v' (l.length+1) (a3z l++[.string (S x)])) (hg:(w1.alloc o).grownBy w2 v.ownBlock) :
 a0x w.heap.size w2 v' (l++[x])/\Bl w w2:=
 ⟨a0x.snoc h,(hb.alloc hsz _).grown hg (by simp;omega) (λk hk=>(World.ownsRow.lt hown k hk).1)⟩
theorem a4y (s:Str) (c:UInt8) (w:World) (hs:s.length<=2^40) :
 Cz 66 #[.string (S s),.int .u8 c.toNat] w (a3w c s w):=by
 obtain⟨i0,hi,hz0,hz1,hz2⟩:=info_parts b2f
 go_enter func66,ntmps66
 go_wp2
 go_loopw [5,6,7] (λv fr i wr=>∃(k f:Nat) (init:List Str),k<=s.length/\f<=k/\i=.int .i64 k/\fr=.int .i64 f/\init.length<=k/\P.split c (s.take k)=init++[(s.drop f).take (k-f)]/\a0x w.heap.size wr v init/\Bl w wr)
  (λ_ _ i _=>s.length-(intOf i).toNat)
 case atStart=>exact⟨0,0,[],Nat.zero_le _,Nat.le_refl _,rfl,rfl,Nat.le_refl _,by simp [P.split],World.ownsRow_made _ _ _ lZ dZ (by rfl),bZ.alloc lZ _⟩
 case round=>
  exact zq7
theorem b1w (s:Str) (w:World) (hs:s.length<=2^40) :
 Cz 66 #[.string (S s),.int .u8 35] w (a3w 35 s w):=a4y s 35 w hs
theorem b8f (s:Str) (w:World) (hs:s.length<=2^40) :
 Cz 66 #[.string (S s),.int .u8 62] w (a3w 62 s w):=a4y s 62 w hs
theorem b2i (s:Str) (w:World) (hs:s.length<=2^40) :
 Cz 66 #[.string (S s),.int .u8 10] w (a3w 10 s w):=a4y s 10 w hs
def d9i (k:Nat) (s:Str) (w:World) (e:Ending) (w':World):Prop:=
 e=.returned (.tuple #[.agg #[.string (S (P.a0z k s).1),.string (S (P.a0z k s).2.1)],.bool (P.a0z k s).2.2])/\Bl w w'
theorem a8h {c:UInt8} (h:a0x B w v (P.split c l)):∃g cap,v=.slice (some ⟨g,0,none⟩) (P.split c l).length cap/\B<=g/\g<w.heap.size/\w.cell? ⟨g,0,none⟩=some (.string (S (P.head c l)))/\1<=(P.split c l).length:=by
 have hlen:1<=(P.split c l).length:=by
  cases hs:P.split c l with
  |nil=>exact absurd hs (P.a2y c l)
  |cons x r=>simp
 have h2:=h.2
 rcases h.2 with⟨_,h0⟩|⟨g,cap,cur,hv,hg,hh,hn,_⟩
 .omega
 .have hob:v.ownBlock=some g:=by rw [hv];rfl
  have hc:=World.ownsRow.cells h hob 0 (.string (S (P.head c l))) (by
   unfold a3z P.head
   cases hs:P.split c l with
   |nil=>exact absurd hs (P.a2y c l)
   |cons x r=>simp)
  have hlt:=(World.ownsRow.lt h g hob).2;exact⟨g,cap,hv,hg,hlt,by simpa [Addr.add] using hc,hlen⟩
theorem read1 (h:(P.head 35 s).length<(P.num k).length+1\/(List.take ((P.num k).length+1) (P.head 35 s)==P.num k++[32])=false):P.a0z k s=([],[],false):=by
 unfold P.a0z;rw [if_pos]
 rcases h with h|h
 .simp [h]
 .simp [bne,h]
theorem read2 (h:¬(P.head 35 s).length<(P.num k).length+1) (h2:(List.take ((P.num k).length+1) (P.head 35 s)==P.num k++[32])=true) {rest:Str} (hr:rest=List.drop ((P.num k).length+1) (P.head 35 s)) :
 P.a0z k s=if (P.head 62 rest).length=rest.length then ([],[],false) else (P.head 62 rest,rest.drop ((P.head 62 rest).length+1),P.good (P.head 62 rest) (rest.drop ((P.head 62 rest).length+1))&&(P.line k (P.head 62 rest) (rest.drop ((P.head 62 rest).length+1))==s++[10])):=by
 subst hr
 unfold P.a0z
 rw [if_neg]
 .simp only [List.length_append,List.length_cons,List.length_nil]
 .simp [bne,h2];omega
theorem d3h (k:Int) (s:Str) (w:World) (h0:0<=k) (hk:k<1000) (hs:s.length<=2^32) :
 Cz 198 #[.string (S s),.int .i64 k] w (d9i k.toNat s w):=by
 have hn:=P.num_len k.toNat oZ
 have hh:=P.b2a 35 s
 by_cases h1:((P.head 35 s).length:Int)<((P.num k.toNat).length:Int)+1
 .have HF:=qh (read1 (k:=k.toNat) (s:=s) (.inl oZ));exact zq37
 .cases h2:(List.take ((P.num k.toNat).length+1) (P.head 35 s)==P.num k.toNat++[32])
  .have HF:=qh (read1 (k:=k.toNat) (s:=s) (.inr h2));exact zq37
  .obtain⟨rest,hrest⟩:∃rest,rest=List.drop ((P.num k.toNat).length+1) (P.head 35 s):=⟨_,rfl⟩;have hrl:rest.length<=s.length:=by rw [hrest];simp;omega
   have HR:=qh (read2 (k:=k.toNat) (s:=s) oZ h2 hrest);have HREST:=qh hrest;clear hrest;have hh2:=P.b2a 62 rest
   by_cases h3:((P.head 62 rest).length:Int)=(rest.length:Int)
   .have HF:=qh (show P.a0z k.toNat s=([],[],false) by rw [HR.o,if_pos oZ]);have h3b:(((P.head 62 rest).length:Int)==(rest.length:Int))=true:=by simpa using h3
    clear h3
    go_enter func198,ntmps198
    go_wp2_with (first|(go_at_call 197;refine (c1a _ _ oZ oZ).mono ?_;rintro e w' ⟨rfl,n1,rfl⟩)|(go_at_call 66;((with_reducible refine (b1w _ _ oZ).mono ?_);rintro e w1 ⟨v,rfl,hown,hb⟩;obtain⟨g,cap,rfl,hg,hgl,hcell,hl1⟩:=a8h hown;clear hown;obtain⟨hcc,hff⟩:=a6a hb;have hz:=grew hb;have HB:=qh hb;clear hb)))
    rw [<-HREST.o]
    go_wp2_with (first|(go_at_call 66;((with_reducible refine (b8f _ _ oZ).mono ?_);rintro e w2 ⟨v2,rfl,hown2,hb2⟩;obtain⟨g2,cap2,rfl,hg2,hgl2,hcell2,hl12⟩:=a8h hown2;clear hown2;obtain⟨hcc2,hff2⟩:=a6a hb2;have hz2:=Nat.lt_of_lt_of_le hz hb2.size;have HB2:=qh hb2;clear hb2)))
    refine bodyPost_ret (v:=.tuple #[.agg #[.string (S []),.string (S [])],.bool false]) (by simp [results,results198,go_sem,hcc,hcc2,hz]) rfl ⟨by rw [HF.o],?_⟩;exact (((below_drewN (bZ.alloc lZ _) _).trans (HB.o.mono sZ)).trans (HB2.o.mono (by have:=HB.o.size;simp at this⊢;omega))).setCell sZ _ |>.setCell sZ _
   .have h3b:(((P.head 62 rest).length:Int)==(rest.length:Int))=false:=by simpa using h3
    have h3':((P.head 62 rest).length:Int)+1<=(rest.length:Int):=by omega
    obtain⟨rep,hrep⟩:∃rep,rep=List.drop ((P.head 62 rest).length+1) rest:=⟨_,rfl⟩;have hrpl:rep.length<=rest.length:=by rw [hrep];simp
    have HF:=qh (show P.a0z k.toNat s=(P.head 62 rest,rep,P.good (P.head 62 rest) rep&&(P.line k.toNat (P.head 62 rest) rep==s++[10])) by rw [HR.o,if_neg oZ,<-hrep]);have HREP:=qh hrep;clear hrep;clear h3
    go_enter func198,ntmps198
    go_wp2_with (first|(go_at_call 197;refine (c1a _ _ oZ oZ).mono ?_;rintro e w' ⟨rfl,n1,rfl⟩)|(go_at_call 66;((with_reducible refine (b1w _ _ oZ).mono ?_);rintro e w1 ⟨v,rfl,hown,hb⟩;obtain⟨g,cap,rfl,hg,hgl,hcell,hl1⟩:=a8h hown;clear hown;obtain⟨hcc,hff⟩:=a6a hb;have hz:=grew hb;have HB:=qh hb;clear hb)))
    rw [<-HREST.o]
    go_wp2_with (first|(go_at_call 66;((with_reducible refine (b8f _ _ oZ).mono ?_);rintro e w2 ⟨v2,rfl,hown2,hb2⟩;obtain⟨g2,cap2,rfl,hg2,hgl2,hcell2,hl12⟩:=a8h hown2;clear hown2;obtain⟨hcc2,hff2⟩:=a6a hb2;have hz2:=Nat.lt_of_lt_of_le hz hb2.size;have HB2:=qh hb2;clear hb2)))
    rw [<-HREP.o];have hr0:w2.cell? ⟨w.heap.size,0,none⟩=some (.string (S [])):=by rw [hcc2 _ _ hz,hcc _ _ sZ];go_simp
    have hr1:w2.cell? ⟨w.heap.size,1,none⟩=some (.string (S [])):=by rw [hcc2 _ _ hz,hcc _ _ sZ];go_simp
    have hr2:w2.frozen? ⟨w.heap.size,0,none⟩=false:=by rw [hff2 _ _ hz,hff _ _ sZ];go_simp
    have hr3:w2.frozen? ⟨w.heap.size,1,none⟩=false:=by rw [hff2 _ _ hz,hff _ _ sZ];go_simp
    have hb:Bl w w2:=((below_drewN (bZ.alloc lZ _) _).trans (HB.o.mono sZ)).trans (HB2.o.mono oZ)
    have hS:(λv:World=>v.cell? ⟨w2.heap.size,0,none⟩=some (.string (S (P.head 62 rest)))/\v.cell? ⟨w2.heap.size,1,none⟩=some (.string (S rep))/\v.cell? ⟨w.heap.size,0,none⟩=some (cellOf v ⟨w.heap.size,0,none⟩)/\v.cell? ⟨w.heap.size,1,none⟩=some (cellOf v ⟨w.heap.size,1,none⟩)/\v.frozen? ⟨w.heap.size,0,none⟩=false/\v.frozen? ⟨w.heap.size,1,none⟩=false/\w.heap.size<w2.heap.size/\w2.heap.size<v.heap.size/\Bl w v) ((w2.alloc (Obj.cells #[.string (S (P.head 62 rest)),.string (S rep)] 86)).drew):=by
     refine⟨?_,?_,?_,?_,?_,?_,hz2,by simp,(hb.alloc oZ _).drew⟩
     .go_simp
     .go_simp
     .exact a5y (x:=.string (S [])) (by go_simp)
     .exact a5y (x:=.string (S [])) (by go_simp)
     .go_simp
     .go_simp
    clear hcc hff hcc2 hff2 HB HB2 hcell hcell2 hg hg2 hgl hgl2 HR h2 h3b hb hl1 hl12 hr0 hr1 hr2 hr3 hz;have HS:=qh hS;clear hS
    cases hgd:P.good (P.head 62 rest) rep
    case true=>
     have f8:¬9223372036854775807<s.length+1:=by omega
     first|(go_region_held3 (λv:World=>v.cell? ⟨w2.heap.size,0,none⟩=some (.string (S (P.head 62 rest)))/\v.cell? ⟨w2.heap.size,1,none⟩=some (.string (S rep))/\v.cell? ⟨w.heap.size,0,none⟩=some (cellOf v ⟨w.heap.size,0,none⟩)/\v.cell? ⟨w.heap.size,1,none⟩=some (cellOf v ⟨w.heap.size,1,none⟩)/\v.frozen? ⟨w.heap.size,0,none⟩=false/\v.frozen? ⟨w.heap.size,1,none⟩=false/\w.heap.size<w2.heap.size/\w2.heap.size<v.heap.size/\Bl w v) (first|assumption|exact HS.o|exact heldR (by assumption) hb|exact b2o (b2o (by assumption) _ sZ _) _ sZ _)
      (first|(go_at_call 94;refine (b3z _ _ _ (by unfold maxLen;omega) (by unfold maxLen;omega)).mono ?_;rintro e v ⟨rfl,hb⟩;rw [hgd])|(go_at_call 122;refine (d3t _ _ _ _ h0 hk oZ oZ).mono ?_;rintro e v ⟨rfl,hb⟩)))|fail
     all_goals
      obtain⟨he0,he1,heb⟩:=c4l (v:=v) (by assumption)
      generalize ((v.setCell ⟨w.heap.size,0,none⟩ (.string (S (P.head 62 rest)))).setCell ⟨w.heap.size,1,none⟩ (.string (S rep)))=wf at *
      have HEB:=qh heb;clear heb
      go_wp2
      refine bodyPost_ret (v:=.tuple #[.agg #[.string (S (P.head 62 rest)),.string (S rep)],.bool (P.line k.toNat (P.head 62 rest) rep==s++[10])]) (by simp [results,results198,go_sem,he0,he1]) rfl ⟨by rw [HF.o,hgd];rfl,HEB.o⟩
    case false=>
     refine wp_region_held_drew (S:=λv:World=>v.cell? ⟨w2.heap.size,0,none⟩=some (.string (S (P.head 62 rest)))/\v.cell? ⟨w2.heap.size,1,none⟩=some (.string (S rep))/\v.cell? ⟨w.heap.size,0,none⟩=some (cellOf v ⟨w.heap.size,0,none⟩)/\v.cell? ⟨w.heap.size,1,none⟩=some (cellOf v ⟨w.heap.size,1,none⟩)/\v.frozen? ⟨w.heap.size,0,none⟩=false/\v.frozen? ⟨w.heap.size,1,none⟩=false/\w.heap.size<w2.heap.size/\w2.heap.size<v.heap.size/\Bl w v) kZ HS.o (λhS0=>?_);refine tk 0 (.agg #[.string (S (P.head 62 rest)),.string (S rep)]) (λz hz=>by obtain⟨z1,z2,_⟩:=hz;go_simp) hS0 ?_;refine tk 1 (.agg #[.string (S (P.head 62 rest)),.string (S rep)]) (λz hz=>by obtain⟨z1,z2,_⟩:=hz;go_simp) hS0 ?_;refine trd 2 λK hK=>?_;go_simp;refine zm64 ?_;rintro e v ⟨rfl,hb⟩;rw [hgd];refine hK.out _ _ (heldR HS.o hb) (λhS1=>?_);clear hK K;refine zm0 ?_;refine tk 3 (.bool false) (λz hz=>by obtain⟨z1,z2,_⟩:=hz;go_simp) hS1 ?_;refine tks 4 hS1 ?_;refine tks 5 hS1 ?_;refine tks 6 hS1 ?_;refine tks 7 hS1 ?_;refine tks 8 hS1 ?_;refine tks 9 hS1 ?_;refine tk 10 (.bool false) (λz hz=>by obtain⟨z1,z2,_⟩:=hz;go_simp) hS1 ?_;refine trd 11 λK hK=>?_;obtain⟨z1,z2,z3,z4,z5,z6,z7,z8,z9⟩:=hS1;go_simp;refine hK.out _ _ (b2o (b2o ⟨z1,z2,z3,z4,z5,z6,z7,z8,z9⟩ _ sZ _) _ sZ _) (λhS2=>?_);clear hK K;refine zm0 ?_;refine wpAnyH_take (i:=12) (v:=.bool false) rfl kZ kZ kZ (λ_ _ _ h=>h) (Or.inl ⟨by rfl,λz hz=>by go_simp⟩) hS2 ?_;refine zm0 ?_;refine wpAnyH_done kZ ?_ _;obtain⟨he0,he1,heb⟩:=c4l (v:=v) hS2;clear hS2 z1 z2 z3 z4 z5 z6 z7 z8 z9 hS0 HS hb;generalize ((v.setCell ⟨w.heap.size,0,none⟩ (.string (S (P.head 62 rest)))).setCell ⟨w.heap.size,1,none⟩ (.string (S rep)))=wf at *;have HEB:=qh heb;clear heb;go_wp2;refine bodyPost_ret (v:=.tuple #[.agg #[.string (S (P.head 62 rest)),.string (S rep)],.bool false]) (by simp [results,results198,go_sem,he0,he1]) rfl ⟨by rw [HF.o,hgd];rfl,HEB.o⟩
end Go.Proofs.YtggfdnopminemaaGreatDoor.L

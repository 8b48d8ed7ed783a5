/- Walks: segments and. -/
import Derived.Test.YtggfdnopminemaaGreatDoorScrI2
set_option linter.all false
namespace Go.Proofs.YtggfdnopminemaaGreatDoor
open Go.Proofs.Tryz
open Go Go.RowKit
set_option maxHeartbeats 8000000
set_option maxRecDepth 100000
variable {gl jn:Bool} {cp:Int} {b wd:Nat} {tx:Str} {v v':Go.World}
theorem d1w (u:Value) (l:List Int) (w:World) (hu:IntR w u l) :
 Cz 150 #[u] w λe w'=>e=.returned (.bool (P.a3n l))/\w=w':=by
 have HU:=qh hu
 obtain⟨ad,cap,rfl,hl,_⟩:=hu
 go_enter func150,ntmps150
 go_wp2
 go_loop [3] (λi=>∃j:Nat,j<=l.length/\j<=61/\i=.int .i64 j/\(l.take j).all P.a0q=true) (λi=>l.length-(intOf i).toNat)
 case atStart=>exact⟨0,Nat.zero_le _,by omega,rfl,by simp⟩
 case round=>
  obtain⟨j,hj,hj61,rfl,ha⟩:=hrel;have HA:=qh ha;clear ha
  by_cases hlt:j<l.length
  .by_cases h60:j<=60
   .obtain⟨g,o,hga,_,hc⟩:=HU.o.at j hlt;subst hga;have HSN:=qh (a0g l j hlt);generalize l[j]=x at *;have i1:(j:Int)<(l.length:Int):=by omega
    have i2:(j:Int)<=60:=by omega
    cases hx:P.a0q x
    .have HNO:=qh (show P.a3n l=false by
      unfold P.a3n;rw [<-List.take_append_drop (j+1) l,HSN.o,List.all_append,List.all_append];simp [hx])
     have HX:=qh hx
     go_wp2_with (go_at_call 191;refine (c4d _ _).mono ?_;rintro e w' ⟨rfl,rfl⟩)
     go_ret;exact⟨a0a HNO.o.symm,rfl⟩
    .have HX:=qh hx
     go_wp2_with (go_at_call 191;refine (c4d _ _).mono ?_;rintro e w' ⟨rfl,rfl⟩)
     go_round
     case rel=>exact⟨j+1,by omega,by omega,by go_num,by rw [HSN.o,List.all_append,HA.o];simp [HX.o]⟩
     case measure=>exact zq
   .have HNO:=qh (show P.a3n l=false by unfold P.a3n;rw [decide_eq_false oZ];rfl);have i1:(j:Int)<(l.length:Int):=by omega
    have i2:¬(j:Int)<=60:=by omega
    have i3:¬(l.length:Int)<=60:=by omega
    go_wp2;go_ret;exact⟨a0a (by rw [HNO.o]),rfl⟩
  .have i1:¬(j:Int)<(l.length:Int):=by omega
   have HE:=qh (show P.a3n l=decide ((l.length:Int)<=60) by
    have h:=HA.o;rw [List.take_of_length_le oZ]at h;unfold P.a3n;rw [h,Bool.and_true];exact decide_eq_decide.2 oZ)
   go_wp2;go_ret;exact⟨a0a (by rw [HE.o]),rfl⟩
theorem l14Raw (m:Nat) (w:World) (hm:P.a0q (m:Int)=true) :
 Cz 366 #[.int .i64 (m:Int)] w λe w'=>e=.returned (.string (S (P.raw m)))/\Bl w w':=by
 have HR:=qh (P.e0u (m:Int));have HNE:=qh (P.e1k hm);have HFL:=qh (P.a8o (m:Int))
 have HM:=qh (show m<2^23 by unfold P.a0q at hm;simp only [decide_eq_true_eq]at hm;omega)
 clear hm
 go_enter func366,ntmps366
 go_wp2_with fail
 refine (b0g m w HM.o).mono ?_
 rintro e w1 ⟨rfl,hb⟩
 have HB:=qh hb
 clear hb
 obtain⟨f,hf⟩:∃f,P.fmt (m:Int)=f:=⟨_,rfl⟩
 rw [hf]at HR HNE HFL⊢
 clear hf
 cases f with
 |nil=>exact absurd rfl HNE.o
 |cons b t=>
  obtain⟨q,hq⟩:∃q,(b==35)=q:=⟨_,rfl⟩;have f0:((b.toNat:Int)==35)=q:=(a7i b 35 dZ).trans hq
  cases q
  .have HE:Hq (P.raw m=b::t):=⟨HR.o.2 λu hu=>by injection hu with hu _;rw [hu]at hq;exact absurd hq dZ⟩;clear hq;go_wp2;go_ret;exact⟨a1v HE.o.symm,HB.o⟩
  .have HE:Hq (P.raw m=[61]++t):=⟨HR.o.1 t (by rw [eq_of_beq hq])⟩;have hfl:=HFL.o;simp only [List.length_cons]at hfl;clear hq;go_wp2;go_ret;exact⟨a1v HE.o.symm,HB.o⟩
theorem d8l (dv sv:Value) (l:P.Dic) (st:List Int) (a:Nat) (w:World) (hu:EntR w dv l) (hs:IntR w sv st) (ha:a<st.length) :
 Cz 221 #[.agg #[dv],sv,.int .i64 a] w (e1w (P.a3l l st a) w):=by
 refine zm17 ?_;intro HB0 HU HST HX HR;obtain⟨ad,cap,rfl,_,_⟩:=hu;obtain⟨sd,sc,rfl,hsl,_⟩:=hs;obtain⟨g,o,hga,_⟩:=HST.o.at 0 oZ;subst hga;have i0:(a:Int)<(st.length:Int):=by omega
 go_enter func221,ntmps221;go_wp2_with fail;go_loopw [7] (λi wr=>∃n:Nat,n<=6/\i=.int .i64 n/\P.a3l l st a=P.a5b l st a (min n (st.length-a))/\Box1 w.heap.size (.slice ad l.length cap) wr/\PcBx (w.heap.size+1) wr/\EntR wr (.slice ad l.length cap) l/\Bl w wr) (λi _=>(intOf i).toNat)
 case atStart=>exact⟨6,by omega,rfl,rfl,HX.o,HR.o,HU.o.below HB0.o,HB0.o⟩
 case round=>
  clear HX HR HB0;obtain⟨n,hn6,rfl,hbs0,hbx,hpb,hen,hb⟩:=hrel;have HBX:=qh hbx;have HPB:=qh hpb;have HEN:=qh hen;have HB:=qh hb;have HBS0:=qh hbs0;clear hbs0 hen;obtain⟨k0,k1⟩:=hbx
  by_cases hn1:1<=n
  .have i1:(0:Int)<(n:Int):=by omega
   by_cases hns:a+n<=st.length
   case neg=>
    have i4:IntKind.i64.wrap ((a:Int)+(n:Int))=(a:Int)+(n:Int):=by rw [IntKind.wrap_i64];omega
    have i2:(st.length:Int)<(a:Int)+(n:Int):=by omega
    go_wp2
    go_roundw
    case rel=>exact⟨n-1,by omega,by congr 1;omega,by rw [HBS0.o];congr 1;omega,HBX.o,HPB.o,HEN.o,HB.o⟩
    case measure=>exact zq
   have HBS:=qh (show P.a3l l st a=P.a5b l st a n by rw [HBS0.o];congr 1;omega);have i8:¬(st.length:Int)<(a:Int)+(n:Int):=by omega
   have i2:(a:Int)+(n:Int)<=(sc:Int):=by omega
   have i3:¬sc=a:=by omega
   have i4:IntKind.i64.wrap ((a:Int)+(n:Int))=(a:Int)+(n:Int):=by rw [IntKind.wrap_i64];omega
   have i5:(0:Int)<=(a:Int)+(n:Int):=by omega
   have i6:a<=((a:Int)+(n:Int)).toNat:=by omega
   have i7:((a:Int)+(n:Int)).toNat-a=n:=by omega
   clear HBS0;have hbd:=(Below.refl wr.heap.size wr).drew;have HBD:=qh (hb.trans (hbd.mono hb.size));have HXD:=qh (HBX.o.below hbd);have HPD:=qh (HPB.o.below hbd);have HED:=qh (HEN.o.below hbd);have HFR:=qh (IntR.cut HST.o hns (sc-a) oZ);clear hb hbd hpb;go_upto_region 5 with fail;refine wp_region_held_drew (S:=Box1 w.heap.size (.slice ad l.length cap)) kZ HXD.o (λhS0=>?_);generalize wr.drew=v0 at *;refine zm39 ?_;intro K hK;go_simp;refine (e1m _ _ l ((st.drop a).take n) _ HED.o (HFR.o.below HBD.o)).mono ?_;rintro e v1 ⟨rfl,hb⟩;have HB4:=bt HBD hb;have HX4:=qh (HXD.o.below hb);have HP4:=qh (HPD.o.below hb);have HE4:=qh (HED.o.below hb);refine zm71 ?_;intro hS1;clear hK K hb hS0;refine zm0 ?_
   have HT:=qh (show P.hasE ((st.drop a).take n) l=true->P.a3l l st a=(((a:Int),(n:Int)),P.a3a ((st.drop a).take n) l) from λh=>by
    obtain⟨m,rfl⟩:∃m,n=m+1:=⟨n-1,by omega⟩;rw [HBS.o];unfold P.a5b;rw [if_pos h])
   have HN:=qh (show P.hasE ((st.drop a).take n) l=false->P.a3l l st a=P.a5b l st a (n-1) from λh=>by
    obtain⟨m,rfl⟩:∃m,n=m+1:=⟨n-1,by omega⟩;rw [HBS.o];conv=>lhs;unfold P.a5b
    rw [if_neg (by rw [h];decide)];rfl)
   generalize P.a3a ((st.drop a).take n) l=tx at *;generalize P.hasE ((st.drop a).take n) l=q at *;refine tk3 8 hS1 ?_;refine tk3 9 hS1 ?_;refine tk3 10 hS1 ?_;refine tk3 11 hS1 ?_;refine tk3 12 hS1 ?_;refine wpAnyH_done kZ ?_ _;clear hS1
   cases q
   .have HNN:=qh (HN.o rfl);clear HT HN;go_wp2
    go_roundw
    case rel=>exact⟨n-1,by omega,by congr 1;omega,by rw [HNN.o];congr 1;omega,HX4.o,HP4.o,HE4.o,HB4.o⟩
    case measure=>exact zq
   .have HTT:=qh (HT.o rfl);clear HT HN;obtain⟨p0,p1,p2,⟨p3,p4,p5⟩,p6⟩:=HP4.o;go_wp2;refine bodyPost_ret (v:=.agg #[.int .i64 a,.int .i64 n,.string (S tx)]) (by simp [results,results221,go_sem,p0,p1,p2]) rfl ⟨by rw [HTT.o],?_⟩;exact ((HB4.o.setCell sZ _).setCell sZ _).setCell sZ _
  .have i1:¬(0:Int)<(n:Int):=by omega
   have HTT:=qh (show P.a3l l st a=(((a:Int),1),[]) by rw [HBS0.o,show n=0 by omega,Nat.zero_min];rfl);clear hb;obtain⟨p0,p1,p2,⟨p3,p4,p5⟩,p6⟩:=HPB.o;go_wp2;refine bodyPost_ret (v:=.agg #[.int .i64 a,.int .i64 1,.string (S [])]) (by simp [results,results221,go_sem,p0,p1,p2]) rfl ⟨by rw [HTT.o],?_⟩;exact ((HB.o.setCell sZ _).setCell sZ _).setCell sZ _
def d7k (l:List P.Pc) (w:World) (e:Ending) (w':World):Prop:=∃u,e=.returned u/\OwnP w.heap.size w' u l/\Bl w w'
theorem b8s (dv sv:Value) (l:P.Dic) (st:List Int) (w:World) (hu:EntR w dv l) (hs:IntR w sv st) (hl60:st.length<=60) :
 Cz 151 #[.agg #[dv],sv] w (d7k (P.segA l st) w):=by
 obtain⟨i0,hi,hz0,hz1,hz2⟩:=info_parts c6r
 have hb0:Bl w ((w.alloc (.cells #[dv] 26)).alloc (.cells #[] 173)):=((Below.refl w.heap.size w).alloc lZ _).alloc sZ _
 have HST:=qh hs;have HU:=qh hu
 have HG:=qh (show SgR w dv l st (.slice (some ⟨w.heap.size+1,0,none⟩) 0 0) [] 0 st.length ((w.alloc (.cells #[dv] 26)).alloc (.cells #[] 173)) from
  ⟨by have h:=World.ownsRow_lit (base:=w.heap.size+1) (e:=173) (size:=3) (w.alloc (.cells #[dv] 26)) #[] 0 sZ (Nat.zero_le _) sZ;simp at h;exact h,
   (DBx.new dv 26 w).below (bZ.alloc lZ _),hb0,by omega,rfl,by omega,by simp⟩)
 clear hb0
 obtain⟨ad,cap,rfl,_,_⟩:=hu
 obtain⟨sd,sc,rfl,hsl,_⟩:=hs
 go_enter func151,ntmps151
 go_wp2_with fail
 go_loopw [5,6] (λs i wr=>∃(row:List P.Pc) (a f:Nat),i=.int .i64 a/\SgR w (.slice ad l.length cap) l st s row a f wr) (λ_ i _=>st.length-(intOf i).toNat)
 case atStart=>exact⟨[],0,st.length,rfl,HG.o⟩
 case round=>
  clear HG;obtain⟨row,a,f,rfl,hg⟩:=hrel;have HG:=qh hg;obtain⟨ua,uc,rfl⟩:=hg.own.form
  by_cases hlt:a<st.length
  .have i1:(a:Int)<(st.length:Int):=by omega
   obtain⟨k,hk,hk1,hk2⟩:=P.b9c (d:=l) hlt;have HK:=qh (P.c5s hlt hg.fuel hk hk1);have HKE:=qh hk;have hra:=hg.lr;obtain⟨k0,_⟩:=hg.bx;clear hg hk
   go_wp2_with fail
   refine (d8l _ _ l st a _ (HU.o.below HG.o.bel) (HST.o.below HG.o.bel) hlt).mono ?_;rintro e w1 ⟨rfl,hb⟩;rw [HKE.o];obtain⟨tx,htx⟩:∃tx,(P.a3l l st a).2=tx:=⟨_,rfl⟩;rw [htx];have HPE:Hq (P.a3l l st a=(((a:Int),(k:Int)),tx)):=⟨Prod.ext HKE.o htx⟩;clear htx k0;have hbx:Bl w1 (w1.alloc (.cells #[.int .i64 a,.int .i64 k,.string (S tx)] 173)):=bZ.alloc lZ _;have HB1:=qh (hb.trans (hbx.mono hb.size));have HZ:=qh (show w.heap.size+1<=w1.heap.size by have h1:=hb.size;have h2:=HG.o.bx.2.2;omega);have HOW:Hq (OwnP (w.heap.size+1) (w1.alloc (.cells #[.int .i64 a,.int .i64 k,.string (S tx)] 173)) (.slice ua row.length uc) row):=⟨a1f HG.o.own (Below.chg HB1.o (λ_=>False)) (λ_ _ h=>h)⟩;have HLT:Hq (∀j,(Value.slice ua row.length uc).ownBlock=some j->j<w1.heap.size):=⟨λj hj=>Nat.lt_of_lt_of_le (World.ownsRow.lt HG.o.own j hj).2 hb.size⟩;clear hb hbx
   go_wp2_with (at_builtin;refine wpList_append_own _ rfl _ _ 115 rfl (w.heap.size+1) 173 i0 (.agg #[.int .i64 0,.int .i64 0,.string ⟨#[]⟩]) 3 32 underlying115 hi hz0 hz1 hz2 rfl dZ (.slice ua row.length uc) row.length (a5a row) rfl HOW.o ⟨w1.heap.size,0,none⟩ 1 1 [.int .i64 a,.int .i64 k,.string (S tx)] rfl rfl ?_ ?_ ?_ ?_ ?_ ?_)
   all_goals first|exact⟨rfl,rfl⟩|(intro z hz;simp only [List.mem_cons,List.not_mem_nil,or_false]at hz;rcases hz with rfl|rfl|rfl<;>rfl)|(unfold maxLen;omega)|omega|(have h1:=HZ.o;simp;omega)|(intro i z hz;rcases i with _|_|_|i;(injection hz with hz;subst hz;rw [add0];go_simp);(injection hz with hz;subst hz;go_simp);(injection hz with hz;subst hz;go_simp);cases hz)|skip
   intro u4 w4 hown hgr _;obtain⟨f',hf',hse⟩:=HK.o;have HG4:=qh (HG.o.app (p:=(((a:Int),(k:Int)),tx)) (a':=a+k) (f':=f') HB1.o hown hgr hf' (by rw [hse,HPE.o]) hk2 oZ);obtain⟨ub,uc4,rfl⟩:=HG4.o.own.form;have hll:(row++[(((a:Int),(k:Int)),tx)]).length=row.length+1:=by simp
   obtain⟨g4,o4,hub,hg4,_,c1,_⟩:=(HG4.o.own.read (by rw [hll];omega)).at row.length (by rw [hll];omega);rw [List.getElem_append_right lZ]at c1;simp only [Nat.sub_self,List.getElem_cons_zero]at c1;subst hub;rw [hll]at HG4⊢;exact zq151
  .have HE:=qh (show P.segA l st=row by rw [hg.seg,P.c9p oZ,List.append_nil]);have hra:=hg.lr;have hla:=hg.la;clear hg;go_wp2;go_ret;exact⟨_,rfl,by rw [HE.o];exact a2g HG.o.own (Nat.le_succ _),HG.o.bel⟩
theorem e2f {B C:Nat} {u x:Value} {l:List P.Pc} {m:List (Int×Str)} (h:OwnP B v u l) (k:a0v C v x m):u.ownBlock=none\/u.ownBlock≠x.ownBlock:=by
 rcases h.2 with⟨rfl,_⟩|⟨g,_,cur,rfl,_,h1,_⟩
 .exact .inl rfl
 .refine .inr λhg=>?_
  rcases k.2 with⟨rfl,_⟩|⟨g',_,cur',rfl,_,h2,_⟩
  .cases hg
  .injection hg with hg;have hg:g=g':=hg;subst hg;rw [h1]at h2;injection h2 with h2;injection h2 with _ h3 _;exact absurd h3 dZ
def e4i (l:List (Int×Str)) (w:World) (e:Ending) (w':World):Prop:=∃u,e=.returned u/\a0v w.heap.size w' u l/\Bl w w'
theorem d9j (dv sv:Value) (dl:P.Dic) (st:List Int) (w:World) (hu:EntR w dv dl) (hs:IntR w sv st) (hd:P.dic dl=true) (hsl:P.a3n st=true) :
 Cz 338 #[.agg #[dv],sv] w (e4i (P.a1b st (P.segA dl st)) w):=by
 obtain⟨i0,hi,hz0,hz1,hz2⟩:=info_parts b2j
 obtain⟨W,hW⟩:∃v,w.alloc (.cells #[dv] 26)=v:=⟨_,rfl⟩
 have hb0:Bl w W:=by rw [<-hW];exact (Below.refl w.heap.size w).alloc lZ _
 have HBX:=qh (show Box1 w.heap.size dv W by rw [<-hW];exact Box1.new _ _ _)
 have hba:=(Below.refl W.heap.size W).alloc lZ (.cells #[] 177)
 have HST:=qh (hs.below hb0);have HUU:=qh (hu.below hb0);have HSL:=qh hsl;have HB00:=qh hb0
 have HP:Hq (∀p∈P.segA dl st,∃a k:Nat,a<st.length/\p.1=((a:Int),(k:Int))/\(p.2=[]\/(P.a0o p.2).2=true)):=⟨λp hp=>P.b8d hd hp⟩
 have HOW:Hq (a0v W.heap.size (W.alloc (.cells #[] 177)) (.slice (some ⟨W.heap.size,0,none⟩) 0 0) []):=⟨World.ownsRow_made _ _ _ lZ dZ (by rfl)⟩
 have HB0:=qh hba
 have hl60:=P.a4w hsl
 have hl:=Nat.le_trans (P.b1t dl st) hl60
 obtain⟨sd,sc,rfl,_,_⟩:=hs
 obtain⟨dd,dc,rfl,_,_⟩:=hu
 clear hba hsl hb0 hd
 go_enter func338,ntmps338
 go_upto_region 2 with (fail)
 try rw [hW]
 clear hW
 obtain⟨k0,k1⟩:=HBX.o.below HB0.o
 go_wp2_with fail
 refine (b8s _ _ dl st _ (HUU.o.below HB0.o) (HST.o.below HB0.o) hl60).mono ?_
 rintro e w1 ⟨u,rfl,hu,hb1⟩
 have HB1:=bt HB0 hb1;have HOW1:=qh (a0i HOW.o hb1 lZ)
 obtain⟨l,hlE⟩:∃l,P.segA dl st=l:=⟨_,rfl⟩
 rw [hlE]at hu HP hl
 have HLE:=qh hlE
 clear hlE
 have HU1:=qh (a2g hu HB0.o.size)
 obtain⟨ad,cap,rfl⟩:=OwnP.form hu
 clear hu hb1 k0 k1 HOW HB0 HUU
 go_wp2
 go_loopw [5,7] (λv i wr=>∃j:Nat,j<=l.length/\i=.int .i64 j/\a0v W.heap.size wr v (P.a1b st (l.take j))/\OwnP W.heap.size wr (.slice ad l.length cap) l/\Bl W wr) (λ_ i _=>l.length-(intOf i).toNat)
 case atStart=>exact⟨0,Nat.zero_le _,rfl,HOW1.o,HU1.o,HB1.o⟩
 case round=>
  clear HOW1 HB1 HU1;obtain⟨j,hj,rfl,hown,hpc,hb⟩:=hrel;have HPC:=qh hpc;have HOWN:=qh hown;have HB:=qh hb;obtain⟨va,vc,rfl⟩:=a5c hown;have hal:=P.a8i st (l.take j);rw [List.length_take,Nat.min_eq_left hj]at hal
  by_cases hlt:j<l.length
  .obtain⟨g,o,hga,hgl,c0,c1,c2⟩:=(hpc.read oZ).at j hlt;obtain⟨a,k,hast,hpk,htx⟩:=HP.o _ (List.getElem_mem hlt);have HSN:=qh (show P.a1b st (l.take (j+1))=P.a1b st (l.take j)++P.a3o st l[j] by rw [a0g l j hlt,P.b4q]);subst hga;generalize l[j]=p at *;obtain⟨⟨p0,p1⟩,tx⟩:=p;simp only [Prod.mk.injEq]at hpk;obtain⟨rfl,rfl⟩:=hpk;simp only at c0 c1 c2 htx;have HTX:=qh htx;have i1:(j:Int)<(l.length:Int):=by omega
   have hbz:=hb.size;obtain⟨at0,hat0⟩:∃x,P.a1b st (l.take j)=x:=⟨_,rfl⟩;rw [hat0]at HOWN HSN hal⊢;clear hb hown htx hat0 hpc
   cases tx with
   |nil=>
    obtain⟨m,hm,hms,hmd⟩:=P.a9z HSL.o hast;have HMS:=qh hms;have HPA:=qh (show P.a3o st (((a:Int),(k:Int)),[])=[(1,P.raw (m:Int))] by rw [P.b9q rfl rfl,hmd]);obtain⟨gs,os,hgs,hgsl,cs⟩:=(HST.o.below HB.o).at a hast;rw [hm]at cs;subst hgs;have i2:(a:Int)<(st.length:Int):=by omega
    clear hms hm hmd;obtain⟨k0,k1⟩:=(HBX.o.below HB.o);go_wp2_with fail;refine (l14Raw m _ HMS.o).mono ?_;rintro e w2 ⟨rfl,hb2⟩;have HX2:=qh hb2;clear c0 c1 c2 cs k0 k1;have HOW2:Hq ((w2.alloc (.cells #[.int .i64 1,.string (S (P.raw (m:Int)))] 177)).ownsRow W.heap.size 177 2 (.slice va at0.length vc) at0.length (a0p at0)):=⟨(a0i HOWN.o HX2.o lZ).alloc _⟩;have hzw2:W.heap.size<=w2.heap.size:=Nat.le_trans hbz HX2.o.size;have hal2:at0.length<=600:=by omega
    clear hb2;generalize P.raw (m:Int)=rw' at *;go_wp2_with (at_builtin;refine wpList_append_own _ rfl _ _ 171 rfl W.heap.size 177 i0 (.agg #[.int .i64 0,.string ⟨#[]⟩]) 2 24 underlying171 hi hz0 hz1 hz2 rfl dZ _ at0.length (a0p at0) rfl HOW2.o ⟨w2.heap.size,0,none⟩ 1 1 [.int .i64 1,.string (S rw')] rfl rfl ?_ ?_ ?_ ?_ ?_ ?_);all_goals first|exact⟨rfl,rfl⟩|(intro z hz;simp only [List.mem_cons,List.not_mem_nil,or_false]at hz;rcases hz with rfl|rfl<;>rfl)|(unfold maxLen;omega)|omega|(simp;omega)|(intro i z hz;rcases i with _|_|i;(injection hz with hz;subst hz;rw [add0];go_simp);(injection hz with hz;subst hz;go_simp);cases hz)|skip
    intro v' w3 hown' hgrow _;refine zm81 ?_;intro R;have HPC3:Hq (OwnP W.heap.size w3 (.slice (some ⟨g,o,none⟩) l.length cap) l):=⟨World.ownsRow.kept ((a0i HPC.o HX2.o lZ).alloc (.cells #[.int .i64 1,.string (S rw')] 177)) hgrow (e2f (a0i HPC.o HX2.o lZ) (a0i HOWN.o HX2.o lZ))⟩;exact zq131
   |cons x tl=>
    have hok:(P.a0o (x::tl)).2=true:=HTX.o.resolve_left sZ;have hl60:=P.b1q hok;have HOK:=qh hok;have HPA:Hq (P.a3o st (((a:Int),(k:Int)),x::tl)=(P.a0o (x::tl)).1):=⟨P.b1c sZ⟩;have hne2:((x::tl:Str)==[])=false:=rfl;have hne3:¬(x::tl:Str)=[]:=by simp
    generalize x::tl=tx at *;clear hok
    go_wp2_with fail
    refine (c5w tx _ oZ).mono ?_;rintro e w1 ⟨pv,rfl,hpo,hb1⟩;have hpo':=hpo HOK.o;rw [HOK.o];have hbx:Bl wr w1:=hb1;have HX1:=qh hbx;have HSRC:=qh (b5a hpo');have hml:=P.b3x tx;have HOW1:=qh (a0i HOWN.o hbx lZ);obtain⟨ma,mc,rfl⟩:=a5c hpo';have hz1':W.heap.size<=w1.heap.size:=Nat.le_trans hbz hbx.size;have hal2:at0.length<=600:=by omega
    clear hb1 hbx hpo hpo' c0 c1 c2;generalize (P.a0o tx).1=ma1 at *
    go_wp2_with (at_builtin;refine a0w rfl _ _ 171 rfl W.heap.size 177 i0 (.agg #[.int .i64 0,.string ⟨#[]⟩]) 2 24 underlying171 hi hz0 hz1 hz2 rfl dZ _ at0.length (a0p at0) rfl HOW1.o _ ma1.length (a0p ma1) rfl HSRC.o ?_ ?_ ?_ ?_)
    .unfold maxLen;omega
    .omega
    .exact hz1'
    intro v' w3 hown' hgrow _;have R:=qh (b9v HOW1.o (HB.o.trans (HX1.o.mono hbz)) hown' hgrow);have HPC3:Hq (OwnP W.heap.size w3 (.slice (some ⟨g,o,none⟩) l.length cap) l):=⟨World.ownsRow.kept (a0i HPC.o HX1.o lZ) hgrow (e2f (a0i HPC.o HX1.o lZ) HOW1.o)⟩;exact zq131
  .have hjl:j=l.length:=by omega
   have HTE:Hq (l.take j=l):=⟨List.take_of_length_le oZ⟩;rw [HTE.o]at HOWN;have i1:¬(j:Int)<(l.length:Int):=by omega
   clear hown hb hpc;go_wp2;go_ret;exact⟨_,rfl,by rw [HLE.o];exact a2g HOWN.o HB00.o.size,HB00.o.trans (HB.o.mono HB00.o.size)⟩
namespace P
theorem c3a {s:St} {a:Int×Bs} {l:List (Int×Bs)} (h:(atom a.1 a.2&&decide (s.text.length<=2000))=false):runS s (a::l)=none:=by
 conv=>lhs;unfold runS
 rw [if_neg (by rw [h];decide)]
theorem d6n {s:St} {a:Int×Bs} {l:List (Int×Bs)} (h:(atom a.1 a.2&&decide (s.text.length<=2000))=true):runS s (a::l)=runS (apply s a.1 a.2) l:=by
 conv=>lhs;unfold runS
 rw [if_pos h]
end P
theorem d5u (s:P.St) (k:Int) (t:Str) (w:World) (hg:P.a3k s) (hl:s.text.length<=2^29) (ha:P.atom k t=true) :
 Cz 339 #[stV s,.agg #[.int .i64 k,.string (S t)]] w λe w'=>e=.returned (stV (P.apply s k t))/\Bl w w':=by
 obtain⟨tx,jn,gl,cp,wd⟩:=s
 have hk:=P.c2u ha
 have ht:t.length<=2^29:=by have:=(P.a6p ha).2;omega
 have h1:=hg.2.1
 have h2:=hg.2.2
 simp only at hl h1 h2
 have hk10:k=1\/k=2\/k=3\/k=4\/k=5\/k=6\/k=7\/k=8\/k=9\/k=10:=by omega
 rcases hk10 with rfl|rfl|rfl|rfl|rfl|rfl|rfl|rfl|rfl|rfl
 .exact d6i tx jn gl cp wd t w h1 h2 hl ht
 .exact d4v tx jn gl cp wd t w h1 h2 hl ht
 .exact d3x tx jn gl cp wd t w h1 h2 hl ht
 .exact d6s tx jn gl cp wd t w h1 h2 hl ht
 .exact d4i tx jn gl cp wd t w h1 h2 hl ht
 .exact d5a tx jn gl cp wd t w h1 h2 hl ht
 .exact d6x tx jn gl cp wd t w h1 h2 hl ht
 .exact d2w tx jn gl cp wd t w h1 h2 hl ht
 .exact d7c tx jn gl cp wd t w h1 h2 hl ht
 .exact d2j tx jn gl cp wd t w h1 h2 hl ht
def StX (b:Nat) (tx:Str) (jn gl:Bool) (cp:Int) (wd:Nat) (g j:Nat) (k:Int) (t:Str) (v:World):Prop:=
 ((v.cell? ⟨b,0,none⟩=some (.string (S tx))/\v.cell? ⟨b,1,none⟩=some (.bool jn)/\v.cell? ⟨b,2,none⟩=some (.bool gl)/\v.cell? ⟨b,3,none⟩=some (.int .i64 cp)/\v.cell? ⟨b,4,none⟩=some (.int .i64 (wd:Int))) /\
 (v.frozen? ⟨b,0,none⟩=false/\v.frozen? ⟨b,1,none⟩=false/\v.frozen? ⟨b,2,none⟩=false/\v.frozen? ⟨b,3,none⟩=false/\v.frozen? ⟨b,4,none⟩=false)/\b<v.heap.size) /\
 (g<v.heap.size/\v.cell? ⟨g,j*2,none⟩=some (.int .i64 k)/\v.cell? ⟨g,j*2+1,none⟩=some (.string (S t)))
theorem StX.below {g j:Nat} {k:Int} {t:Str} (h:StX b tx jn gl cp wd g j k t v) (hb:Bl v v'):StX b tx jn gl cp wd g j k t v':=
 ⟨a0t.below (s:=⟨tx,jn,gl,cp,wd⟩) h.1 hb,Nat.lt_of_lt_of_le h.2.1 hb.size,(hb.cell (p:=⟨g,j*2,none⟩) h.2.1).trans h.2.2.1,(hb.cell (p:=⟨g,j*2+1,none⟩) h.2.1).trans h.2.2.2⟩
theorem a0t.all {s:P.St} (h:a0t b s v) (tx:Str) (jn gl:Bool) (cp:Int) (wd:Nat) :
 a0t b ⟨tx,jn,gl,cp,wd⟩ (((((v.setCell ⟨b,0,none⟩ (.string (S tx))).setCell ⟨b,1,none⟩ (.bool jn)).setCell ⟨b,2,none⟩ (.bool gl)).setCell ⟨b,3,none⟩ (.int .i64 cp)).setCell ⟨b,4,none⟩ (.int .i64 (wd:Int))):=
 ((((h.text tx).a0u jn).a4j gl).cap cp).word wd
def StY (b:Nat) (tx:Str) (jn gl:Bool) (cp:Int) (wd:Nat) (v:World):Prop:=
 ((v.cell? ⟨b,0,none⟩=some (.string (S tx))/\v.cell? ⟨b,1,none⟩=some (.bool jn)/\v.cell? ⟨b,2,none⟩=some (.bool gl)/\v.cell? ⟨b,3,none⟩=some (.int .i64 cp)/\v.cell? ⟨b,4,none⟩=some (.int .i64 (wd:Int))) /\
 (v.frozen? ⟨b,0,none⟩=false/\v.frozen? ⟨b,1,none⟩=false/\v.frozen? ⟨b,2,none⟩=false/\v.frozen? ⟨b,3,none⟩=false/\v.frozen? ⟨b,4,none⟩=false)/\b<v.heap.size)
theorem StY.below (h:StY b tx jn gl cp wd v) (hb:Bl v v'):StY b tx jn gl cp wd v':=a0t.below (s:=⟨tx,jn,gl,cp,wd⟩) h hb
theorem d3a (dv sv:Value) (dl:P.Dic) (st:List Int) (w:World) (hu:EntR w dv dl) (hs:IntR w sv st) (hd:P.dic dl=true) (hsl:P.a3n st=true) :
 Cz 290 #[.agg #[dv],sv] w (a9u (P.a4l (P.a1b st (P.segA dl st))) w):=by
 have hb0:Bl w (w.alloc (.cells #[dv] 26)):=(Below.refl w.heap.size w).alloc lZ _
 have HBX:=qh (Box1.new dv 26 w)
 have HST:=qh (hs.below hb0);have HU:=qh (hu.below hb0);have HB0:=qh hb0
 have HT:=qh (P.b4j (st:=st) (l:=P.segA dl st) λp hp=>P.b8d hd hp)
 have hl6:=P.a8i st (P.segA dl st)
 have hl60:=P.a4w hsl
 have hl:=Nat.le_trans (P.b1t dl st) hl60
 obtain⟨sd,sc,rfl,_,_⟩:=hs
 obtain⟨dd,dc,rfl,_,_⟩:=hu
 clear hb0
 go_enter func290,ntmps290
 go_wp2_with fail
 refine (e2n _).mono ?_
 rintro e w1 ⟨rfl,hb⟩
 have HB1:=bt HB0 hb;have HX1:=qh (HBX.o.below hb);have HST1:=qh (HST.o.below hb);have HU1:=qh (HU.o.below hb)
 clear hb
 unfold stV P.init
 go_upto_region 2 with fail
 have hba:=(Below.refl w1.heap.size w1).alloc lZ (.cells #[.string (S []),.bool true,.bool false,.int .i64 0,.int .i64 0] 225)
 have HS0:Hq (a0t w1.heap.size P.init (w1.alloc (.cells #[.string (S []),.bool true,.bool false,.int .i64 0,.int .i64 0] 225))):=⟨a0t.new P.init w1⟩
 have HB2:=bt HB1 hba;have HX2:=qh (HX1.o.below hba);have HST2:=qh (HST1.o.below hba);have HU2:=qh (HU1.o.below hba)
 have HW1:=qh HB1.o.size
 clear hba HBX HST HU HB0 HX1 HST1 HU1
 generalize (World.alloc _ _)=W at *
 obtain⟨k0,k1⟩:=HX2.o
 go_wp2_with fail
 refine (d9j _ _ dl st _ HU2.o HST2.o hd hsl).mono ?_
 rintro e w2 ⟨u,rfl,ho,hb⟩
 obtain⟨ad,cap,rfl⟩:=a5c ho
 have HOW:=qh ho;have HS2:=qh (HS0.o.below hb);have HB3:=bt HB2 hb
 obtain⟨l,hlE⟩:∃l,P.a1b st (P.segA dl st)=l:=⟨_,rfl⟩
 rw [hlE]at HOW HT hl6⊢
 have HLE:=qh hlE
 have HWB:=qh HS0.o.2.2
 have hl600:l.length<=600:=by omega
 clear hlE ho hb k0 k1 hl6
 go_wp2
 go_loopw [8] (λi wr=>∃(j:Nat) (s':P.St),j<=l.length/\i=.int .i64 j/\P.a3k s'/\s'.text.length<=2050/\P.runS P.init l=P.runS s' (l.drop j)/\a0t w1.heap.size s' wr/\a0v W.heap.size wr (.slice ad l.length cap) l/\Bl w wr) (λi _=>l.length-(intOf i).toNat)
 case atStart=>exact⟨0,P.init,Nat.zero_le _,rfl,P.a7e,by decide,rfl,HS2.o,HOW.o,HB3.o⟩
 case round=>
  obtain⟨j,s',hj,rfl,hg,hln,hrun,hsb,how,hb⟩:=hrel;have HG:=qh hg;have HRUN:=qh hrun;have HSB:=qh hsb;have HO:=qh how;have HB:=qh hb;clear hg hrun hb HOW HS2 HB3;obtain⟨tx,jn,gl,cp,wd⟩:=s';simp only at hln;obtain⟨⟨a0,a1,a2,a3,a4⟩,⟨f0,f1,f2,f3,f4⟩,hlb⟩:=hsb;simp only at a0 a1 a2 a3 a4
  by_cases hlt:j<l.length
  .obtain⟨ad',cap',he,hr⟩:=b2d how;injection he with he1 _ he3;subst he1 he3;obtain⟨g,hga,hgl,hat⟩:=hr.resolve_left (by intro e;rw [e]at hlt;simp at hlt);subst hga;obtain⟨c0,c1⟩:=hat j hlt;have HXT:=qh (HT.o _ (List.getElem_mem hlt));have HD:=qh (List.drop_eq_getElem_cons hlt);have HAT:=qh (hat j hlt);generalize l[j]=x at *;obtain⟨k,t⟩:=x;simp only at c0 c1;have i1:(j:Int)<(l.length:Int):=by omega
   clear how hat hr
   go_wp2_with fail
   refine (c5d k t _ (by have h9:=HXT.o;have h8:t.length<=2^29:=h9;unfold maxLen;omega)).mono ?_;rintro e w3 ⟨rfl,hb⟩;have HSB3:=qh (HSB.o.below hb);have HO3:=qh (a0i HO.o hb lZ);have HB3:=bt HB hb;have hc0:=(hb.cell (p:=⟨g,0+j*2,none⟩) hgl);have HC3:=qh (show w3.cell? ⟨g,j*2,none⟩=some (.int .i64 k)/\w3.cell? ⟨g,j*2+1,none⟩=some (.string (S t)) from⟨(hb.cell (p:=⟨g,j*2,none⟩) hgl).trans c0,(hb.cell (p:=⟨g,j*2+1,none⟩) hgl).trans c1⟩);have HGL:=qh (Nat.lt_of_lt_of_le hgl hb.size);clear hb hc0 c0 c1 a0 a1 a2 a3 a4 f0 f1 f2 f3 f4 hlb HSB HO HB hgl HAT;obtain⟨⟨a0,a1,a2,a3,a4⟩,⟨f0,f1,f2,f3,f4⟩,hlb⟩:=HSB3.o;simp only at a0 a1 a2 a3 a4;obtain⟨q,hq⟩:∃q,P.atom k t=q:=⟨_,rfl⟩;have HQ:=qh hq;rw [hq];clear hq
   cases q
   .have HE:=qh (show P.a4l l=([],false) by unfold P.a4l;rw [HRUN.o,HD.o,P.c3a (by rw [HQ.o];rfl)]);go_wp2;go_ret2;exact⟨by rw [HLE.o,HE.o];rfl,HB3.o⟩
   .by_cases h2:tx.length<=2000
    .have i2:¬(2000:Int)<(tx.length:Int):=by omega
     have HE:=qh (show P.runS P.init l=P.runS (P.apply ⟨tx,jn,gl,cp,wd⟩ k t) (l.drop (j+1)) by rw [HRUN.o,HD.o];exact P.d6n (by rw [HQ.o,decide_eq_true h2];rfl));have HLN:=qh (P.d4m HG.o HQ.o);have HGN:=qh (P.b0d HG.o HQ.o);have hbd:=(Below.refl w3.heap.size w3).drew;have HS0:=qh (show StX w1.heap.size tx jn gl cp wd g j k t w3 from⟨HSB3.o,HGL.o,HC3.o.1,HC3.o.2⟩);have HX0:=qh (HS0.o.below hbd);have HO4:=qh (a0i HO3.o hbd lZ);have HB4:=bt HB3 hbd;clear hbd;go_upto_region 8 with fail;clear a0 a1 a2 a3 a4 f0 f1 f2 f3 f4 hlb;refine Left.region [6] (S:=StX w1.heap.size tx jn gl cp wd g j k t) kZ HX0.o (λhS0=>?_);generalize w3.drew=v1 at *;refine lk19 0 hS0 ?_;refine lk19 1 hS0 ?_;refine lk19 2 hS0 ?_;refine lk19 3 (v:=.pointer (some ⟨g,j*2,none⟩)) hS0 ?_;refine lk19 4 hS0 ?_;refine lrd 5 λK hK=>?_;go_simp;refine (d5u ⟨tx,jn,gl,cp,wd⟩ k t _ HG.o (by simp only;omega) HQ.o).mono ?_;rintro e v2 ⟨rfl,hb1⟩;have HX5:=qh (HX0.o.below hb1);have HO5:=qh (a0i HO4.o hb1 lZ);have HB5:=bt HB4 hb1;refine a1r hK dZ (hS0.below hb1) (λhS1=>?_);clear hK K hb1 hS0;generalize P.apply ⟨tx,jn,gl,cp,wd⟩ k t=r at *;obtain⟨rt,rj,rg,rc,rw⟩:=r;unfold stV;refine zm0 ?_;refine lrd 6 λK hK=>?_;obtain⟨⟨⟨b0,b1,b2,b3,b4⟩,⟨g0,g1,g2,g3,g4⟩,hlb⟩,_,_,_⟩:=HX5.o;go_simp;refine a2p hK dZ ?_;clear hK K hS1;refine zm0 ?_;refine Left.done kZ ?_ _;have H6:=qh (a0t.all (s:=⟨tx,jn,gl,cp,wd⟩) HX5.o.1 rt rj rg rc rw);have hwb:=HWB.o;have H7:=qh (ownsRow_setCell_below (ownsRow_setCell_below (ownsRow_setCell_below (ownsRow_setCell_below (ownsRow_setCell_below HO5.o (a:=⟨w1.heap.size,0,none⟩) hwb (.string (S rt))) (a:=⟨w1.heap.size,1,none⟩) hwb (.bool rj)) (a:=⟨w1.heap.size,2,none⟩) hwb (.bool rg)) (a:=⟨w1.heap.size,3,none⟩) hwb (.int .i64 rc)) (a:=⟨w1.heap.size,4,none⟩) hwb (.int .i64 (rw:Int)));have H8:=qh (((((HB5.o.setCell (p:=⟨w1.heap.size,0,none⟩) HW1.o (.string (S rt))).setCell (p:=⟨w1.heap.size,1,none⟩) HW1.o (.bool rj)).setCell (p:=⟨w1.heap.size,2,none⟩) HW1.o (.bool rg)).setCell (p:=⟨w1.heap.size,3,none⟩) HW1.o (.int .i64 rc)).setCell (p:=⟨w1.heap.size,4,none⟩) HW1.o (.int .i64 (rw:Int)));generalize (World.setCell _ _ _)=v4 at *;clear b0 b1 b2 b3 b4 g0 g1 g2 g3 g4 hlb;go_wp2;go_roundw
     case rel=>
      have h9:rt.length<=tx.length+50:=HLN.o;have h10:(⟨rt,rj,rg,rc,rw⟩:P.St).text.length<=2050:=by show rt.length<=2050;omega
      first
      |exact⟨j+1,⟨rt,rj,rg,rc,rw⟩,by omega,by go_num,HGN.o,h10,HE.o,H6.o,H7.o,H8.o⟩
      |exact⟨j+1,by omega,by go_num,⟨rt,rj,rg,rc,rw⟩,HGN.o,h10,HE.o,H6.o,H7.o,H8.o⟩
      |exact⟨u4,u5,.int .i64 ((j:Int)+1),⟨j+1,by omega,by go_num,⟨rt,rj,rg,rc,rw⟩,HGN.o,h10,HE.o,H6.o,H7.o,H8.o⟩,rfl,rfl,rfl⟩
      |exact⟨j+1,⟨rt,rj,rg,rc,rw⟩,by omega,HGN.o,h10,HE.o,H6.o,H7.o,H8.o,by go_num⟩
     case measure=>exact zq
    .have i2:(2000:Int)<(tx.length:Int):=by omega
     have HE:=qh (show P.a4l l=([],false) by unfold P.a4l;rw [HRUN.o,HD.o,P.c3a (by rw [HQ.o,decide_eq_false h2];rfl)]);go_wp2;go_ret2;exact⟨by rw [HLE.o,HE.o];rfl,HB3.o⟩
  .have HR:=qh (show P.a4l l=(tx,P.stOk ⟨tx,jn,gl,cp,wd⟩) by
    unfold P.a4l;rw [HRUN.o,List.drop_of_length_le oZ]
    show (tx,P.stOk ⟨tx,jn,gl,cp,wd⟩&&decide (l.length<=600))=_
    rw [decide_eq_true hl600,Bool.and_true])
   have i1:¬(j:Int)<(l.length:Int):=by omega
   have i6:(l.length:Int)<=600:=by omega
   have hbd:=(Below.refl wr.heap.size wr).drew;have HY:Hq (StY w1.heap.size tx jn gl cp wd wr):=⟨HSB.o⟩;have HY0:=qh (HY.o.below hbd);have HB4:=bt HB hbd;clear how hbd;go_upto_region 9 with fail;clear a0 a1 a2 a3 a4 f0 f1 f2 f3 f4 hlb;refine wp_region_held_drew (S:=StY w1.heap.size tx jn gl cp wd) kZ HY0.o (λhS0=>?_);generalize wr.drew=v1 at *;refine tk11 0 hS0 ?_;refine tk11 1 hS0 ?_;refine tk11 2 hS0 ?_;refine trd 3 λK hK=>?_;go_simp;refine (e2q ⟨tx,jn,gl,cp,wd⟩ _ (by simp only;omega)).mono ?_;rintro e v2 ⟨rfl,hb1⟩;have HB5:=bt HB4 hb1;refine hK.out _ _ (hS0.below hb1) (λhS1=>?_);clear hK K hb1 hS0;refine zm0 ?_;generalize P.stOk ⟨tx,jn,gl,cp,wd⟩=q at *;refine tk11 4 hS1 ?_
   cases q
   .skip;refine tks 5 hS1 ?_;refine tks 6 hS1 ?_;refine tks 7 hS1 ?_;exact zq136
   .skip;refine tk11 5 hS1 ?_;refine tk11 6 hS1 ?_;refine tk11 7 hS1 ?_;exact zq136
end Go.Proofs.YtggfdnopminemaaGreatDoor

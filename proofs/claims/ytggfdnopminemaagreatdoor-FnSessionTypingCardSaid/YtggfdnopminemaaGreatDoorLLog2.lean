/- Walks: segments and screens (reference). -/
import Derived.Test.YtggfdnopminemaaGreatDoorZt
import Derived.Test.YtggfdnopminemaaGreatDoorScrI3
set_option linter.all false
namespace Go.Proofs.YtggfdnopminemaaGreatDoor
open Go Go.RowKit
set_option maxHeartbeats 8000000
set_option maxRecDepth 100000
theorem c3x (u:Value) (l:List Int) (w:World) (hu:IntR w u l) :
 Calls Tryz.prog 150 #[u] w fun e w'=>e=.returned (.bool (P.a1t l))∧w=w':=by
 have HU:=qh hu
 obtain⟨ad,cap,rfl,hl,_⟩:=hu
 go_enter Tryz.func150,Tryz.ntmps150
 go_wp2
 go_loop [3] (fun i=>∃j:Nat,j≤l.length∧j≤61∧i=.int .i64 j∧(l.take j).all P.a0m=true) (fun i=>l.length-(intOf i).toNat)
 case atStart=>exact⟨0,Nat.zero_le _,by omega,rfl,by simp⟩
 case round=>
  obtain⟨j,hj,hj61,rfl,ha⟩:=hrel;have HA:=qh ha;clear ha
  by_cases hlt:j<l.length
  ·by_cases h60:j≤60
   ·obtain⟨g,o,hga,_,hc⟩:=HU.o.at j hlt;subst hga;have HSN:=qh (a0h l j hlt);generalize l[j]=x at *;have i1:(j:Int)<(l.length:Int):=by omega
    have i2:(j:Int)≤60:=by omega
    cases hx:P.a0m x
    ·have HNO:=qh (show P.a1t l=false by
      unfold P.a1t;rw [←List.take_append_drop (j+1) l,HSN.o,List.all_append,List.all_append];simp [hx])
     have HX:=qh hx
     go_wp2_with (go_at_call 191;refine (c2n _ _).mono ?_;rintro e w' ⟨rfl,rfl⟩)
     go_ret;exact⟨a0b HNO.o.symm,rfl⟩
    ·have HX:=qh hx
     go_wp2_with (go_at_call 191;refine (c2n _ _).mono ?_;rintro e w' ⟨rfl,rfl⟩)
     go_round
     case rel=>exact⟨j+1,by omega,by omega,by go_num,by rw [HSN.o,List.all_append,HA.o];simp [HX.o]⟩
     case measure=>simp [intOf];omega
   ·have HNO:=qh (show P.a1t l=false by unfold P.a1t;rw [decide_eq_false oZ];rfl);have i1:(j:Int)<(l.length:Int):=by omega
    have i2:¬(j:Int)≤60:=by omega
    have i3:¬(l.length:Int)≤60:=by omega
    go_wp2;go_ret;exact⟨a0b (by rw [HNO.o]),rfl⟩
  ·have i1:¬(j:Int)<(l.length:Int):=by omega
   have HE:=qh (show P.a1t l=decide ((l.length:Int)≤60) by
    have h:=HA.o;rw [List.take_of_length_le oZ]at h;unfold P.a1t;rw [h,Bool.and_true];exact decide_eq_decide.2 oZ)
   go_wp2;go_ret;exact⟨a0b (by rw [HE.o]),rfl⟩
theorem d1a (dv sv:Value) (l:P.Dic) (st:List Int) (a:Nat) (w:World) (hu:EntR w dv l) (hs:IntR w sv st) (ha:a<st.length) :
 Calls Tryz.prog 221 #[.agg #[dv],sv,.int .i64 a] w (d3k (P.a2r l st a) w):=by
 have hb0:Below w.heap.size w ((w.alloc (.cells #[dv] 26)).alloc (.cells #[.int .i64 0,.int .i64 0,.string (S [])] 173)):=((Below.refl w.heap.size w).alloc lZ _).alloc sZ _
 have HB0:=qh hb0;have HU:=qh hu;have HST:=qh hs
 have HX:=qh ((Box1.new dv 26 w).below (bZ.alloc lZ (.cells #[.int .i64 0,.int .i64 0,.string (S [])] 173)))
 have HR:=qh (show PcBx (w.heap.size+1) ((w.alloc (.cells #[dv] 26)).alloc (.cells #[.int .i64 0,.int .i64 0,.string (S [])] 173)) by refine⟨?_,?_,?_,⟨?_,?_,?_⟩,?_⟩<;>go_simp)
 clear hb0
 obtain⟨ad,cap,rfl,_,_⟩:=hu
 obtain⟨sd,sc,rfl,hsl,_⟩:=hs
 obtain⟨g,o,hga,_⟩:=HST.o.at 0 oZ
 subst hga
 have i0:(a:Int)<(st.length:Int):=by omega
 go_enter Tryz.func221,Tryz.ntmps221
 go_wp2_with fail
 go_loopw [7] (fun i wr=>∃n:Nat,n≤6∧i=.int .i64 n∧P.a2r l st a=P.a3v l st a (min n (st.length-a))∧Box1 w.heap.size (.slice ad l.length cap) wr∧PcBx (w.heap.size+1) wr∧EntR wr (.slice ad l.length cap) l∧Below w.heap.size w wr) (fun i _=>(intOf i).toNat)
 case atStart=>exact⟨6,by omega,rfl,rfl,HX.o,HR.o,HU.o.below HB0.o,HB0.o⟩
 case round=>
  clear HX HR HB0;obtain⟨n,hn6,rfl,hbs0,hbx,hpb,hen,hb⟩:=hrel;have HBX:=qh hbx;have HPB:=qh hpb;have HEN:=qh hen;have HB:=qh hb;have HBS0:=qh hbs0;clear hbs0 hen;obtain⟨k0,k1⟩:=hbx
  by_cases hn1:1≤n
  ·have i1:(0:Int)<(n:Int):=by omega
   by_cases hns:a+n≤st.length
   case neg=>
    have i4:IntKind.i64.wrap ((a:Int)+(n:Int))=(a:Int)+(n:Int):=by rw [IntKind.wrap_i64];omega
    have i2:(st.length:Int)<(a:Int)+(n:Int):=by omega
    go_wp2
    go_roundw
    case rel=>exact⟨n-1,by omega,by congr 1;omega,by rw [HBS0.o];congr 1;omega,HBX.o,HPB.o,HEN.o,HB.o⟩
    case measure=>simp [intOf];omega
   have HBS:=qh (show P.a2r l st a=P.a3v l st a n by rw [HBS0.o];congr 1;omega);have i8:¬(st.length:Int)<(a:Int)+(n:Int):=by omega
   have i2:(a:Int)+(n:Int)≤(sc:Int):=by omega
   have i3:¬sc=a:=by omega
   have i4:IntKind.i64.wrap ((a:Int)+(n:Int))=(a:Int)+(n:Int):=by rw [IntKind.wrap_i64];omega
   have i5:(0:Int)≤(a:Int)+(n:Int):=by omega
   have i6:a≤((a:Int)+(n:Int)).toNat:=by omega
   have i7:((a:Int)+(n:Int)).toNat-a=n:=by omega
   clear HBS0;have hbd:=(Below.refl wr.heap.size wr).drew;have HBD:=qh (hb.trans (hbd.mono hb.size));have HXD:=qh (HBX.o.below hbd);have HPD:=qh (HPB.o.below hbd);have HED:=qh (HEN.o.below hbd);have HFR:=qh (IntR.cut HST.o hns (sc-a) oZ);clear hb hbd hpb
   go_upto_region 5 with fail
   refine wp_region_held_drew (S:=Box1 w.heap.size (.slice ad l.length cap)) kZ HXD.o (fun hS0=>?_);generalize wr.drew=v0 at *;refine tk2 0 hS0 ?_;refine tk2 1 hS0 ?_;refine tk2 2 hS0 ?_;refine tk2 3 hS0 ?_;refine tk2 4 hS0 ?_;refine tk2 5 hS0 ?_;refine tk2 6 hS0 ?_;refine trd 7 fun K hK=>?_;go_simp;refine (l6Find _ _ l ((st.drop a).take n) _ HED.o (HFR.o.below HBD.o)).mono ?_;rintro e v1 ⟨rfl,hb⟩;have HB4:=bt HBD hb;have HX4:=qh (HXD.o.below hb);have HP4:=qh (HPD.o.below hb);have HE4:=qh (HED.o.below hb);refine hK.out _ _ (hS0.below hb) (fun hS1=>?_);clear hK K hb hS0
   try simp only [qA,qB,qC,Act.put,qD,qE,qF]
   have HT:=qh (show P.hasE ((st.drop a).take n) l=true→P.a2r l st a=(((a:Int),(n:Int)),P.a3e ((st.drop a).take n) l) from fun h=>by
    obtain⟨m,rfl⟩:∃m,n=m+1:=⟨n-1,by omega⟩;rw [HBS.o];unfold P.a3v;rw [if_pos h])
   have HN:=qh (show P.hasE ((st.drop a).take n) l=false→P.a2r l st a=P.a3v l st a (n-1) from fun h=>by
    obtain⟨m,rfl⟩:∃m,n=m+1:=⟨n-1,by omega⟩;rw [HBS.o];conv=>lhs;unfold P.a3v
    rw [if_neg (by rw [h];decide)];rfl)
   generalize P.a3e ((st.drop a).take n) l=tx at *;generalize P.hasE ((st.drop a).take n) l=q at *;refine tk2 8 hS1 ?_;refine tk2 9 hS1 ?_;refine tk2 10 hS1 ?_;refine tk2 11 hS1 ?_;refine tk2 12 hS1 ?_;refine wpAnyH_done kZ ?_ _;clear hS1
   cases q
   ·have HNN:=qh (HN.o rfl);clear HT HN;go_wp2
    go_roundw
    case rel=>exact⟨n-1,by omega,by congr 1;omega,by rw [HNN.o];congr 1;omega,HX4.o,HP4.o,HE4.o,HB4.o⟩
    case measure=>simp [intOf];omega
   ·have HTT:=qh (HT.o rfl);clear HT HN;obtain⟨p0,p1,p2,⟨p3,p4,p5⟩,p6⟩:=HP4.o;go_wp2;refine bodyPost_ret (v:=.agg #[.int .i64 a,.int .i64 n,.string (S tx)]) (by simp [results,Tryz.results221,go_sem,p0,p1,p2]) rfl ⟨by rw [HTT.o],?_⟩;exact ((HB4.o.setCell sZ _).setCell sZ _).setCell sZ _
  ·have i1:¬(0:Int)<(n:Int):=by omega
   have HTT:=qh (show P.a2r l st a=(((a:Int),1),[]) by rw [HBS0.o,show n=0 by omega,Nat.zero_min];rfl);clear hb;obtain⟨p0,p1,p2,⟨p3,p4,p5⟩,p6⟩:=HPB.o;go_wp2;refine bodyPost_ret (v:=.agg #[.int .i64 a,.int .i64 1,.string (S [])]) (by simp [results,Tryz.results221,go_sem,p0,p1,p2]) rfl ⟨by rw [HTT.o],?_⟩;exact ((HB.o.setCell sZ _).setCell sZ _).setCell sZ _
def c8e (l:List P.Pc) (w:World) (e:Ending) (w':World):Prop:=∃u,e=.returned u∧OwnP w.heap.size w' u l∧Below w.heap.size w w'
theorem c4u (dv sv:Value) (l:P.Dic) (st:List Int) (w:World) (hu:EntR w dv l) (hs:IntR w sv st) (hl60:st.length≤60) :
 Calls Tryz.prog 151 #[.agg #[dv],sv] w (c8e (P.segA l st) w):=by
 obtain⟨i0,hi,hz0,hz1,hz2⟩:=info_parts b9n
 have hb0:Below w.heap.size w ((w.alloc (.cells #[dv] 26)).alloc (.cells #[] 173)):=((Below.refl w.heap.size w).alloc lZ _).alloc sZ _
 have HST:=qh hs;have HU:=qh hu
 have HG:=qh (show SgR w dv l st (.slice (some ⟨w.heap.size+1,0,none⟩) 0 0) [] 0 st.length ((w.alloc (.cells #[dv] 26)).alloc (.cells #[] 173)) from
  ⟨by have h:=World.ownsRow_lit (base:=w.heap.size+1) (e:=173) (size:=3) (w.alloc (.cells #[dv] 26)) #[] 0 sZ (Nat.zero_le _) sZ;simp at h;exact h,
   (DBx.new dv 26 w).below (bZ.alloc lZ _),hb0,by omega,rfl,by omega,by simp⟩)
 clear hb0
 obtain⟨ad,cap,rfl,_,_⟩:=hu
 obtain⟨sd,sc,rfl,hsl,_⟩:=hs
 go_enter Tryz.func151,Tryz.ntmps151
 go_wp2_with fail
 go_loopw [5,6] (fun s i wr=>∃(row:List P.Pc) (a f:Nat),i=.int .i64 a∧SgR w (.slice ad l.length cap) l st s row a f wr) (fun _ i _=>st.length-(intOf i).toNat)
 case atStart=>exact⟨[],0,st.length,rfl,HG.o⟩
 case round=>
  clear HG;obtain⟨row,a,f,rfl,hg⟩:=hrel;have HG:=qh hg;obtain⟨ua,uc,rfl⟩:=hg.own.form
  by_cases hlt:a<st.length
  ·have i1:(a:Int)<(st.length:Int):=by omega
   obtain⟨k,hk,hk1,hk2⟩:=P.b5c (d:=l) hlt;have HK:=qh (P.b8b hlt hg.fuel hk hk1);have HKE:=qh hk;have hra:=hg.lr;obtain⟨k0,_⟩:=hg.bx;clear hg hk
   go_wp2_with fail
   refine (d1a _ _ l st a _ (HU.o.below HG.o.bel) (HST.o.below HG.o.bel) hlt).mono ?_;rintro e w1 ⟨rfl,hb⟩;rw [HKE.o];obtain⟨tx,htx⟩:∃tx,(P.a2r l st a).2=tx:=⟨_,rfl⟩;rw [htx];have HPE:=qh (show P.a2r l st a=(((a:Int),(k:Int)),tx) from Prod.ext HKE.o htx);clear htx k0;have hbx:Below w1.heap.size w1 (w1.alloc (.cells #[.int .i64 a,.int .i64 k,.string (S tx)] 173)):=bZ.alloc lZ _;have HB1:=qh (hb.trans (hbx.mono hb.size));have HZ:=qh (show w.heap.size+1≤w1.heap.size by have h1:=hb.size;have h2:=HG.o.bx.2.2;omega);have HOW:=qh (show OwnP (w.heap.size+1) (w1.alloc (.cells #[.int .i64 a,.int .i64 k,.string (S tx)] 173)) (.slice ua row.length uc) row from a0g HG.o.own (Below.chg HB1.o (fun _=>False)) (fun _ _ h=>h));have HLT:=qh (show ∀j,(Value.slice ua row.length uc).ownBlock=some j→j<w1.heap.size from fun j hj=>Nat.lt_of_lt_of_le (World.ownsRow.lt HG.o.own j hj).2 hb.size);clear hb hbx
   go_wp2_with (at_builtin;refine wpList_append_own _ rfl _ _ 115 rfl (w.heap.size+1) 173 i0 (.agg #[.int .i64 0,.int .i64 0,.string ⟨#[]⟩]) 3 32 Tryz.underlying115 hi hz0 hz1 hz2 rfl dZ (.slice ua row.length uc) row.length (a3u row) rfl HOW.o ⟨w1.heap.size,0,none⟩ 1 1 [.int .i64 a,.int .i64 k,.string (S tx)] rfl rfl ?_ ?_ ?_ ?_ ?_ ?_)
   all_goals first|exact⟨rfl,rfl⟩|(intro z hz;simp only [List.mem_cons,List.not_mem_nil,or_false]at hz;rcases hz with rfl|rfl|rfl<;>rfl)|(unfold maxLen;omega)|omega|(have h1:=HZ.o;simp;omega)|(intro i z hz;rcases i with _|_|_|i;(injection hz with hz;subst hz;rw [add0];go_simp);(injection hz with hz;subst hz;go_simp);(injection hz with hz;subst hz;go_simp);cases hz)|skip
   intro u4 w4 hown hgr _;obtain⟨f',hf',hse⟩:=HK.o;have HG4:=qh (HG.o.app (p:=(((a:Int),(k:Int)),tx)) (a':=a+k) (f':=f') HB1.o hown hgr hf' (by rw [hse,HPE.o]) hk2 oZ);obtain⟨ub,uc4,rfl⟩:=HG4.o.own.form;have hll:(row++[(((a:Int),(k:Int)),tx)]).length=row.length+1:=by simp
   obtain⟨g4,o4,hub,hg4,_,c1,_⟩:=(HG4.o.own.read (by rw [hll];omega)).at row.length (by rw [hll];omega);rw [List.getElem_append_right lZ]at c1;simp only [Nat.sub_self,List.getElem_cons_zero]at c1;subst hub;rw [hll]at HG4⊢;exact zq63
  ·have HE:=qh (show P.segA l st=row by rw [hg.seg,P.c1l oZ,List.append_nil]);have hra:=hg.lr;have hla:=hg.la;clear hg;go_wp2;go_ret;exact⟨_,rfl,by rw [HE.o];exact a1n HG.o.own (Nat.le_succ _),HG.o.bel⟩
namespace P
end P
theorem a0u.all {b:Nat} {s:P.St} {v:World} (h:a0u b s v) (tx:Str) (jn gl:Bool) (cp:Int) (wd:Nat) :
 a0u b ⟨tx,jn,gl,cp,wd⟩ (((((v.setCell ⟨b,0,none⟩ (.string (S tx))).setCell ⟨b,1,none⟩ (.bool jn)).setCell ⟨b,2,none⟩ (.bool gl)).setCell ⟨b,3,none⟩ (.int .i64 cp)).setCell ⟨b,4,none⟩ (.int .i64 (wd:Int))):=
 ((((h.text tx).a0t jn).a3j gl).cap cp).word wd
end Go.Proofs.YtggfdnopminemaaGreatDoor
namespace Go.Proofs.YtggfdnopminemaaGreatDoor.L
open Go Go.RowKit
def EB:Nat:=max 0 5+1
def Env (w:World):Prop:=EB≤w.heap.size∧(∃m,w.cell? ⟨0,0,none⟩=some (.int .i64 m))∧Lib.TabIs Tryz.prog w "internal/strconv.uint64pow10" .u64 Lib.pow10Tab
theorem b9j:Tryz.prog.globalNamed "internal/strconv.uint64pow10"=some 5:=by kernel_rfl
theorem Env.size {w:World} (h:Env w):EB≤w.heap.size:=h.1
theorem Env.below {B:Nat} {w w':World} (h:Env w) (hb:Below B w w') (hB:EB≤B):Env w':=by
 obtain⟨h1,⟨m,h2⟩,h3⟩:=h;refine⟨Nat.le_trans h1 hb.size,⟨m,?_⟩,?_⟩
 ·rw [hb.cell (p:=⟨0,0,none⟩) (by show 0<B;unfold EB at hB;omega)];exact h2
 ·exact var?_below hb b9j (by unfold EB at hB;omega) h3
theorem Env.alloc {w:World} (h:Env w) (o:Obj):Env (w.alloc o):=
 h.below ((Below.refl w.heap.size _).alloc lZ o) h.1
theorem Env.drewN {w:World} (h:Env w) (k:Nat):Env (w.drewN k):=
 h.below (below_drewN (Below.refl w.heap.size _) k) h.1
theorem b3x (c:Str) (w:World) (hc:c.length≤2^30) (ha:∀(j:Nat) (b:UInt8),c[j]?=some b→b.toNat<128) :
 Calls Tryz.prog 135 #[.string (S c),.string ⟨#[35,62]⟩] w fun e w'=>e=.returned (.bool (Lib.containsAny c [35,62]))∧Below w.heap.size w w':=by
 have h:=Tryz.strings_ContainsAny_laid (S c) ⟨#[35,62]⟩ w (by rw [S_size];omega) dZ (by rw [S_dataList];exact ha)
  (by intro j b hb;match j,hb with|0,hb=>(simp at hb;subst hb;decide)|1,hb=>(simp at hb;subst hb;decide))
 rw [S_dataList]at h
 exact h
theorem a4s (n:Int) (w:World) (h0:0≤n) (h:n<4611686018427387904) (hE:Env w) :
 Calls Tryz.prog 145 #[.int .i64 n] w fun e w'=>e=.returned (.string (S (P.num n.toNat)))∧Below w.heap.size w w':=by
 refine (Tryz.strconv_Itoa n oZ oZ w hE.2.2).mono ?_
 rintro e w' ⟨rfl,k,os,rfl⟩
 refine⟨?_,?_⟩
 ·obtain⟨m,rfl⟩:=Int.eq_ofNat_of_zero_le h0;rw [show ((m:Nat):Int)=Int.ofNat m from rfl];exact a4d (Lib.itoa_nonneg m)
 ·exact (below_drewN bZ k).trans ⟨rfl,rfl,rfl,by simp,fun i hi=>Sort.heap_grow_old _ _ hi⟩
theorem d5k (s sep:Str) (w:World) (hs:s.length≤2^31) (hE:Env w) :
 Calls Tryz.prog 69 #[.string (S s),.string (S sep)] w fun e w'=>e=.returned (.tuple #[.string (S (Lib.cut s sep).1),.string (S (Lib.cut s sep).2.1),.bool (Lib.cut s sep).2.2])∧∃n,w'=w.drewN n:=by
 obtain⟨m,hm⟩:=hE.2.1
 have h:=Tryz.strings_Cut (S s) (S sep) m w (by rw [S_size];omega) hm
 rw [S_dataList,S_dataList]at h
 exact h
theorem b4c {B:Nat} {w v:World} {x y:Option Value} (h:v.cell? ⟨B,0,none⟩=x∧v.cell? ⟨B,1,none⟩=y∧B<v.heap.size∧Env v∧Below B w v):Below B w v:=h.2.2.2.2
theorem held2 {B:Nat} {w v v':World} {x y:Option Value} (h:v.cell? ⟨B,0,none⟩=x∧v.cell? ⟨B,1,none⟩=y∧B<v.heap.size∧Env v∧Below B w v) (hb:Below v.heap.size v v') :
 v'.cell? ⟨B,0,none⟩=x∧v'.cell? ⟨B,1,none⟩=y∧B<v'.heap.size∧Env v'∧Below B w v':=
 ⟨(hb.cell (p:=⟨B,0,none⟩) h.2.2.1).trans h.1,(hb.cell (p:=⟨B,1,none⟩) h.2.2.1).trans h.2.1,Nat.lt_of_lt_of_le h.2.2.1 hb.size,h.2.2.2.1.below hb h.2.2.2.1.size,h.2.2.2.2.trans (hb.mono (Nat.le_of_lt h.2.2.1))⟩
theorem Env.dic {w:World} (h:Env w):Go.Proofs.YtggfdnopminemaaGreatDoor.Env w:=⟨Nat.le_trans (by unfold Go.Proofs.YtggfdnopminemaaGreatDoor.EB EB;omega) h.1,h.2.1⟩
set_option maxHeartbeats 8000000
set_option maxRecDepth 100000
theorem a1k (n lo hi:Int) (w:World) :
 Calls Tryz.prog 74 #[.int .i64 n,.int .i64 lo,.int .i64 hi] w fun e w'=>e=.returned (.bool (decide (lo≤n∧n≤hi)))∧w=w':=by
 by_cases h1:lo≤n<;>by_cases h2:n≤hi
 all_goals
  go_enter Tryz.func74,Tryz.ntmps74
  go_wp2
  go_ret
  exact⟨a0b (by simp [h1,h2]),rfl⟩
theorem l1In (n lo hi:Int) (w:World) :
 Calls Tryz.prog 187 #[.int .i64 n,.int .i64 lo,.int .i64 hi] w fun e w'=>e=.returned (.bool (decide (lo≤n∧n≤hi)))∧w=w':=by
 by_cases h1:lo≤n<;>by_cases h2:n≤hi
 all_goals
  go_enter Tryz.func187,Tryz.ntmps187
  go_wp2
  go_ret
  exact⟨a0b (by simp [h1,h2]),rfl⟩
theorem c1k {l:Str} {p:UInt8→Bool} (k:Nat) (h:k<l.length) (hp:p l[k]=false):l.all p=false:=by
 rw [List.all_eq_false];exact⟨l[k],List.getElem_mem h,by simp [hp]⟩
theorem a8k {l:Str} {p:UInt8→Bool} (k:Nat) (h:k<l.length) (ha:(l.take k).all p=true) (hp:p l[k]=true):(l.take (k+1)).all p=true:=by
 rw [a0h l k h,List.all_append,ha];simp [hp]
@[go_sem] theorem u8_eq (a b : UInt8) : ((a.toNat : Int) == (b.toNat : Int)) = (a == b) := by
 exact zq69
theorem pr_no (b:UInt8) (h:(b.toNat:Int)<32∨126<(b.toNat:Int)):(decide (32≤(b.toNat:Int))&&decide ((b.toNat:Int)≤126))=false:=by
 rw [Bool.and_eq_false_iff,decide_eq_false_iff_not,decide_eq_false_iff_not];omega
theorem pr_yes (b:UInt8) (h:32≤(b.toNat:Int)) (h2:(b.toNat:Int)≤126):(decide (32≤(b.toNat:Int))&&decide ((b.toNat:Int)≤126))=true:=by
 simp [h,h2]
theorem a2w (s:Str) (w:World) (hs:s.length≤maxLen) :
 Calls Tryz.prog 134 #[.string (S s)] w fun e w'=>e=.returned (.bool (P.a2b s))∧w=w':=by
 unfold maxLen at hs
 go_enter Tryz.func134,Tryz.ntmps134
 go_wp2
 go_loop [3,6] (fun _ i=>∃k:Nat,k≤s.length∧i=.int .i64 k∧P.a2b (s.take k)=true) (fun _ i=>s.length-(intOf i).toNat)
 case atStart=>exact⟨0,by omega,rfl,by simp [P.a2b]⟩
 case round=>
  obtain⟨k,hk,rfl,ha⟩:=hrel;have HA:=qh ha;clear ha
  by_cases hlt:k<s.length
  ·rcases Int.lt_or_le (s[k].toNat:Int) 32 with h1|h1
   ·go_wp2;go_ret;exact⟨a0b (c1k k hlt (pr_no _ (.inl h1))).symm,rfl⟩
   ·rcases Int.lt_or_le 126 (s[k].toNat:Int) with h2|h2
    ·go_wp2;go_ret;exact⟨a0b (c1k k hlt (pr_no _ (.inr h2))).symm,rfl⟩
    ·go_wp2
     go_round
     case rel=>exact⟨k+1,by omega,by go_num,a8k k hlt HA.o (pr_yes _ h1 h2)⟩
     case measure=>simp [intOf];omega
  ·go_wp2;go_ret;exact⟨a0b (by rw [←HA.o,List.take_of_length_le oZ]),rfl⟩
theorem c0t {b:UInt8} {n:Nat} (hn:n<256) (h:b≠UInt8.ofNat n):((b.toNat:Int)==(n:Int))=false:=by
 rw [beq_eq_false_iff_ne];intro e;apply h;apply UInt8.toNat_inj.1;rw [UInt8.toNat_ofNat_of_lt' hn];omega
theorem d2u (l:Str) (k:Nat) (h:k<l.length):P.sum (l.take (k+1))=(41*P.sum (l.take k)+l[k].toNat+1) % 999979:=by
 rw [a0h l k h];simp only [P.sum,List.foldl_append,List.foldl_cons,List.foldl_nil]
theorem d3q (l:Str):P.sum l<999979:=by
 suffices ∀(l:Str) (h:Nat),h<999979→l.foldl (fun h b=>(41*h+b.toNat+1) % 999979) h<999979 from this l 7 oZ
 intro l;induction l with
 |nil=>intro h hh;exact hh
 |cons b l ih=>intro h hh;exact ih _ (Nat.mod_lt _ oZ)
theorem b6f (s:Str) (w:World) (hs:s.length≤maxLen) :
 Calls Tryz.prog 277 #[.string (S s)] w fun e w'=>e=.returned (.tuple #[.int .i64 (if (s.length:Int)≤4000 then P.sum s else 0),.bool (decide ((s.length:Int)≤4000))])∧w=w':=by
 unfold maxLen at hs
 by_cases h4:(s.length:Int)≤4000
 ·rw [if_pos h4,decide_eq_true h4]
  go_enter Tryz.func277,Tryz.ntmps277
  go_wp2
  go_loop [4,5,11] (fun h _ i=>∃k:Nat,k≤s.length∧i=.int .i64 k∧h=.int .i64 (P.sum (s.take k))) (fun _ _ i=>s.length-(intOf i).toNat)
  case atStart=>exact⟨0,by omega,rfl,by simp [P.sum]⟩
  case round=>
   obtain⟨k,hk,rfl,rfl⟩:=hrel;have hb:=d3q (s.take k)
   by_cases hlt:k<s.length
   ·have hsn:=d2u s k hlt;have HS:=qh hsn;clear hsn;have hc:=s[k].toNat_lt;generalize hg:P.sum (List.take k s)=g at *;have HG:=qh hg;clear hg;go_wp2
    go_round
    case rel=>exact⟨k+1,by omega,by go_num,by rw [HS.o];go_num⟩
    case measure=>simp [intOf];omega
   ·go_wp2;go_ret2;exact⟨by rw [List.take_of_length_le (l:=s) (i:=k) oZ];rfl,rfl⟩
 ·rw [if_neg h4,decide_eq_false h4]
  go_enter Tryz.func277,Tryz.ntmps277
  go_wp2;go_ret2;exact⟨rfl,rfl⟩
theorem d0u {c:Str} (h:P.a2b c=true):∀(j:Nat) (b:UInt8),c[j]?=some b→b.toNat<128:=by
 intro j b hb;have:=List.all_eq_true.1 h b (List.mem_of_getElem? hb);simp at this;omega
theorem a2l (c r:Str) (w:World) (hc:c.length≤2^30) (hr:r.length≤2^30) :
 Calls Tryz.prog 68 #[.agg #[.string (S c),.string (S r)]] w fun e w'=>e=.returned (.bool (P.vrec c r))∧Below w.heap.size w w':=by
 have hc':c.length≤maxLen:=by unfold maxLen;omega
 have hr':r.length≤maxLen:=by unfold maxLen;omega
 cases h1:decide (1≤(c.length:Int)∧(c.length:Int)≤90)
 ·go_enter Tryz.func68,Tryz.ntmps68
  go_wp2_with (first|(go_at_call 74;refine (a1k _ _ _ _).mono ?_;rintro e w' ⟨rfl,rfl⟩))
  go_ret;exact⟨a0b (by simp only [P.vrec,h1,Bool.false_and]),bZ.alloc lZ _⟩
 ·cases h2:P.a2b c
  ·go_enter Tryz.func68,Tryz.ntmps68
   go_wp2_with (first|(go_at_call 74;refine (a1k _ _ _ _).mono ?_;rintro e w' ⟨rfl,rfl⟩)|(go_at_call 134;refine (a2w _ _ (by assumption)).mono ?_;rintro e w' ⟨rfl,rfl⟩))
   go_ret;exact⟨a0b (by simp only [P.vrec,h1,h2,Bool.false_and,Bool.true_and]),bZ.alloc lZ _⟩
  ·have HA:=qh (d0u h2)
   cases h3:Lib.containsAny c [35,62]<;>cases h4:decide ((r.length:Int)≤200)<;>cases h5:P.a2b r<;>cases h6:Lib.contains r [35]
   all_goals
    go_enter Tryz.func68,Tryz.ntmps68
    go_wp2_with (first|(go_at_call 74;refine (a1k _ _ _ _).mono ?_;rintro e w' ⟨rfl,rfl⟩)|(go_at_call 134;refine (a2w _ _ (by assumption)).mono ?_;rintro e w' ⟨rfl,rfl⟩)|(go_at_call 135;refine (b3x _ _ hc HA.o).mono ?_;rintro e w' ⟨rfl,hb⟩;obtain⟨hcc,hff⟩:=c0p hb;have HB:=qh hb;clear hb)|(go_at_call 136;refine (contains_one _ 35 _).mono ?_;rintro e w' ⟨rfl,rfl⟩))
    go_ret
    exact⟨a0b (by simp only [P.vrec,h1,h2,h3,h4,h5,h6,Bool.and_true,Bool.and_false,Bool.not_true,Bool.not_false]),(bZ.alloc lZ _).trans (HB.o.mono sZ)⟩
theorem a0f (s:Str) (w:World) (hs:s.length≤2^30) (hE:Env w) :
 Calls Tryz.prog 219 #[.string (S s)] w fun e w'=>e=.returned (.tuple #[.string (S (P.a0f s).1),.bool (P.a0f s).2])∧Below w.heap.size w w':=by
 have hs':s.length≤maxLen:=by unfold maxLen;omega
 have HE:=qh hE;clear hE
 have hl:=d3q s
 have hl2:=P.a5v (P.sum s) oZ
 by_cases h1:(s.length:Int)≤4000
 ·have hp:P.a7a s=s++35::P.num (P.sum s):=rfl;have hps:(P.a7a s).length=s.length+((P.num (P.sum s)).length+1):=by rw [hp];simp
  have HP:=qh hp;clear hp;have HPS:=qh hps;clear hps;have hd1:decide ((s.length:Int)≤4000)=true:=decide_eq_true h1;have HD1:=qh hd1;clear hd1
  cases h2:Lib.contains s [35]
  ·by_cases h3:(s.length:Int)+(((P.num (P.sum s)).length:Int)+1)≤4000
   ·have HF:=qh (show P.a0f s=(P.a7a s,true) by unfold P.a0f P.a4p;rw [HD1.o,h2,HPS.o,decide_eq_true oZ];rfl);have H1:=qh h1;clear h1;have h3':(s.length:Int)+((P.num (P.sum s)).length:Int)<4000:=by omega
    clear h3
    go_enter Tryz.func219,Tryz.ntmps219
    go_wp2_with (first|(go_at_call 277;refine (b6f _ _ hs').mono ?_;rintro e w' ⟨rfl,rfl⟩;rw [if_pos H1.o,HD1.o])|(go_at_call 145;refine (a4s _ _ oZ oZ HE.o).mono ?_;rintro e w' ⟨rfl,hb⟩;have HB:=qh hb;clear hb;rw [Int.toNat_natCast])|(go_at_call 136;refine (contains_one _ 35 _).mono ?_;rintro e w' ⟨rfl,rfl⟩))
    go_ret2;exact⟨by rw [HF.o,HP.o];rfl,HB.o⟩
   ·have h3':=Int.not_le.1 h3;clear h3;have HF:=qh (show P.a0f s=([],false) by unfold P.a0f P.a4p;rw [HD1.o,h2,HPS.o,decide_eq_false oZ];rfl);exact zq21
  ·have HF:=qh (show P.a0f s=([],false) by unfold P.a0f P.a4p;rw [HD1.o,h2];rfl);exact zq21
 ·have HF:=qh (show P.a0f s=([],false) by unfold P.a0f P.a4p;rw [decide_eq_false h1];rfl);have h0:=P.a5v 0 oZ;have hd1:decide ((s.length:Int)≤4000)=false:=decide_eq_false h1;have HD1:=qh hd1;clear hd1
  go_enter Tryz.func219,Tryz.ntmps219
  go_wp2_with (first|(go_at_call 277;refine (b6f _ _ hs').mono ?_;rintro e w' ⟨rfl,rfl⟩;rw [if_neg h1,HD1.o])|(go_at_call 145;refine (a4s _ _ oZ oZ HE.o).mono ?_;rintro e w' ⟨rfl,hb⟩;have HB:=qh hb;clear hb;rw [show (0:Int).toNat=0 from rfl])|(go_at_call 136;refine (contains_one _ 35 _).mono ?_;rintro e w' ⟨rfl,rfl⟩))
  go_ret2;exact⟨by rw [HF.o];rfl,HB.o⟩
theorem a9k (s:Str):(P.a0f s).1.length≤4000:=by
 unfold P.a0f
 cases h:P.a4p s
 ·simp
 ·unfold P.a4p at h;simp only [Bool.and_eq_true,decide_eq_true_eq]at h;have:=h.2.2
  show (P.a7a s).length≤4000
  omega
theorem b0r (k:Int) (c r:Str) (w:World) (hc:c.length≤2^28) (hr:r.length≤2^28) (hE:Env w) :
 Calls Tryz.prog 147 #[.int .i64 k,.agg #[.string (S c),.string (S r)]] w fun e w'=>e=.returned (.tuple #[.string (S (P.encode k c r).1),.bool (P.encode k c r).2])∧Below w.heap.size w w':=by
 have HE:=qh hE;clear hE
 cases h1:decide (0≤k∧k≤59)
 ·have HF:=qh (show P.encode k c r=([],false) by unfold P.encode;rw [h1];rfl)
  go_enter Tryz.func147,Tryz.ntmps147
  go_wp2_with (go_at_call 74;refine (a1k _ _ _ _).mono ?_;rintro e w' ⟨rfl,rfl⟩)
  go_ret2;exact⟨by rw [HF.o];rfl,bZ.alloc lZ _⟩
 ·have hk:=of_decide_eq_true h1;obtain⟨hk0,hk1⟩:=hk
  cases h2:P.vrec c r
  ·have HF:=qh (show P.encode k c r=([],false) by unfold P.encode;rw [h1,h2];rfl)
   go_enter Tryz.func147,Tryz.ntmps147
   go_wp2_with (first|(go_at_call 74;refine (a1k _ _ _ _).mono ?_;rintro e w' ⟨rfl,rfl⟩)|(go_at_call 68;refine (a2l _ _ _ oZ oZ).mono ?_;rintro e w' ⟨rfl,hb⟩;have HB:=qh hb;clear hb))
   go_ret2;exact⟨by rw [HF.o];rfl,(bZ.alloc lZ _).trans (HB.o.mono sZ)⟩
  ·have HF:=qh (show P.encode k c r=((P.a0f (P.num k.toNat++32::(c++62::r))).1++[10],true) by unfold P.encode;rw [h1,h2];rfl);have hn:=P.a5v k.toNat oZ;have hl:=a9k (P.num k.toNat++32::(c++62::r))
   go_enter Tryz.func147,Tryz.ntmps147
   go_wp2_with (first|(go_at_call 74;refine (a1k _ _ _ _).mono ?_;rintro e w' ⟨rfl,rfl⟩)|(go_at_call 68;refine (a2l _ _ _ oZ oZ).mono ?_;rintro e w' ⟨rfl,hb⟩;have HB:=qh hb;clear hb))
   have hb:=HB.o;have hc0:w'.cell? ⟨w.heap.size,0,none⟩=some (.string (S c)):=by rw [hb.cell (p:=⟨w.heap.size,0,none⟩) sZ];go_simp
   have hc1:w'.cell? ⟨w.heap.size,1,none⟩=some (.string (S r)):=by rw [hb.cell (p:=⟨w.heap.size,1,none⟩) sZ];go_simp
   have hsz:w.heap.size<w'.heap.size:=by have:=hb.size;simp at this;omega
   have hE1:Env w':=(HE.o.alloc _).below hb (HE.o.alloc _).size;have hb1:Below w.heap.size w w':=(bZ.alloc lZ _).trans (hb.mono sZ);clear hb;have f1:¬9223372036854775807<(P.num k.toNat).length+1:=by omega
   have f2:¬9223372036854775807<(P.num k.toNat).length+1+c.length:=by omega
   have f3:¬9223372036854775807<(P.num k.toNat).length+(c.length+1)+1:=by omega
   have f4:¬9223372036854775807<(P.num k.toNat).length+(c.length+1+1)+r.length:=by omega
   go_region_held3 (fun v=>v.cell? ⟨w.heap.size,0,none⟩=some (.string (S c))∧v.cell? ⟨w.heap.size,1,none⟩=some (.string (S r))∧w.heap.size<v.heap.size∧Env v∧Below w.heap.size w v) (first|assumption|exact⟨hc0,hc1,hsz,hE1.drewN 1,below_drewN hb1 1⟩|exact held2 (by assumption) hb)
    (first|(go_at_call 145;refine (a4s _ _ oZ oZ ?_).mono ?_;exact (by assumption:_∧_∧_∧Env _∧_).2.2.2.1;rintro e v ⟨rfl,hb⟩)|(go_at_call 219;refine (a0f _ _ (by simp;omega) ?_).mono ?_;exact (by assumption:_∧_∧_∧Env _∧_).2.2.2.1;rintro e v ⟨rfl,hb⟩))
   have hx:Below w.heap.size w v:=b4c (by assumption);have HX:=qh hx;clear hx f1 f2 f3 f4;go_wp2;go_ret2;exact⟨by rw [HF.o];rfl,HX.o⟩
end Go.Proofs.YtggfdnopminemaaGreatDoor.L

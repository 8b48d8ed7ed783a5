/- Walks: a dictionary that the cursor draws. -/
import Derived.Test.YtggfdnopminemaaGreatDoorZt
import Derived.Test.YtggfdnopminemaaGreatDoorPut3
import Derived.Test.YtggfdnopminemaaGreatDoorWalkT
set_option linter.all false
namespace Go.Proofs.YtggfdnopminemaaGreatDoor
open Go Go.RowKit
set_option maxHeartbeats 8000000
set_option maxRecDepth 100000
structure b3y (l:P.Dic):Prop where
 len:l.length≤60
 outs:∀e∈l,e.1.length≤8
 texts:∀e∈l,e.2.length≤300
theorem b3y.small {l:P.Dic} (h:b3y l):Small l:=⟨by have:=h.len;omega,fun e he=>by have:=h.outs e he;omega,fun e he=>by have:=h.texts e he;omega⟩
theorem d2t (e:P.Ent) (l:P.Dic):0<(P.putF e false l).length:=List.length_pos_of_mem ((P.a4r e l e).2 (.inl rfl))
theorem b6c {e x:P.Ent} {l:P.Dic} (h:x∈P.putF e false l):x=e∨x∈l:=by
 rcases (P.a4r e l x).1 h with h|h
 ·exact .inl h
 ·exact .inr (P.a9w h)
def a9f (lo:Nat) (v:World) (u:Value) (n:Nat):Prop:=∃B xs,lo≤B∧v.ownsRow B 119 2 u n xs
theorem a9f.a0c {lo:Nat} {v v':World} {u:Value} {n:Nat} {X:Blk} (h:a9f lo v u n) (hc:Chg X v v') (hX:∀k,lo≤k→k<v.heap.size→¬X k):a9f lo v' u n:=by
 obtain⟨B,xs,h1,h2⟩:=h;exact⟨B,xs,h1,a0g h2 hc fun k hk=>by have h3:=World.ownsRow.lt h2 k hk;exact hX k oZ h3.2⟩
def d0j (B C K:Nat) (w:World) (e:Ending) (w':World):Prop:=∃(l:P.Dic) (u:Value),e=.returned (.agg #[u])∧b3y l∧l.length≤9∧0<l.length∧Ents w' (Bet w.heap.size w'.heap.size) u l∧a9f w.heap.size w' u l.length∧a0d B C K w w'
def c9j (l:P.Dic):Prop:=(∀e∈l,e.1.length≤3)∧l.Pairwise P.lt
theorem c9j.put {l:P.Dic} (h:c9j l) {o:List Int} {t:Str} (ho:o.length≤3):c9j (P.putF (o,t) false l):=
 ⟨fun e he=>(b6c he).elim (fun e'=>by rw [e'];exact ho) (h.1 e),P.a5u _ _ h.2⟩
def c7i (B C K:Nat) (w:World) (e:Ending) (w':World):Prop:=∃(l:P.Dic) (u:Value),e=.returned (.agg #[u])∧b3y l∧c9j l∧l.length≤9∧0<l.length∧Ents w' (Bet w.heap.size w'.heap.size) u l∧a9f w.heap.size w' u l.length∧a0d B C K w w'
def DBx (b:Nat) (u:Value) (v:World):Prop:=v.cell? ⟨b,0,none⟩=some u∧v.frozen? ⟨b,0,none⟩=false∧b<v.heap.size
theorem DBx.a0c {b:Nat} {u:Value} {v v':World} {X:Blk} (h:DBx b u v) (hc:Chg X v v') (hX:¬X b):DBx b u v':=
 ⟨(hc.cell (p:=⟨b,0,none⟩) h.2.2 hX).trans h.1,(hc.frozen (p:=⟨b,0,none⟩) h.2.2 hX).trans h.2.1,Nat.lt_of_lt_of_le h.2.2 hc.size⟩
theorem DBx.below {b:Nat} {u:Value} {v v':World} (h:DBx b u v) (hb:Below v.heap.size v v'):DBx b u v':=h.a0c (Below.chg hb fun _=>False) fun h=>h
theorem DBx.new (u:Value) (t:TypeId) (v:World):DBx v.heap.size u (v.alloc (.cells #[u] t)):=by
 refine⟨?_,?_,?_⟩<;>go_simp
theorem DBx.put {b:Nat} {u u':Value} {v:World} (h:DBx b u v):DBx b u' (v.setCell ⟨b,0,none⟩ u'):=
 ⟨World.cell?_setCell_same _ _ _ h.1,by simpa using h.2.1,by simpa [World.setCell] using h.2.2⟩
def DRun (B C K:Nat) (w v:World) (l:P.Dic) (u:Value):Prop:=
 (∃a c,u=.slice a l.length c)∧(b3y l∧c9j l)∧Ents v (Bet (w.heap.size+2) v.heap.size) u l∧a9f (w.heap.size+2) v u l.length∧DBx (w.heap.size+1) u v∧DBx w.heap.size (.slice none 0 0) v∧a0d B C K w v
theorem b3l (B C N:Nat) (w:World) (hN:N<2^33) (h:a1r B C N w) :
 Calls Tryz.prog 110 #[.pointer (some ⟨C,0,none⟩)] w (c7i B C (N+1000) w):=by
 have hlt:=h.lt
 have hba:Below w.heap.size w ((w.alloc (.cells #[.slice none 0 0] 26)).alloc (.cells #[.slice none 0 0] 26)):=((Below.refl w.heap.size w).alloc lZ _).alloc sZ _
 have HC:=qh ((a0d.refl h (Nat.le_refl N)).below hba)
 have HD1:=qh (show DBx (w.heap.size+1) (.slice none 0 0) ((w.alloc (.cells #[.slice none 0 0] 26)).alloc (.cells #[.slice none 0 0] 26)) by have h:=DBx.new (.slice none 0 0) 26 (w.alloc (.cells #[.slice none 0 0] 26));simpa using h)
 have HD0:=qh ((DBx.new (.slice none 0 0) 26 w).below (bZ.alloc lZ (.cells #[.slice none 0 0] 26)))
 clear h hba
 go_enter Tryz.func110,Tryz.ntmps110
 go_wp2_with fail
 refine (a1b B C N 7 _ oZ dZ HC.o.1).mono ?_
 rintro e w1 ⟨x,hx,rfl,hc⟩
 have hx7:x<7:=by omega
 have HR:=qh (show DRun B C (N+2) w w1 [] (.slice none 0 0) from⟨⟨none,0,rfl⟩,⟨⟨by simp,(fun e h=>by cases h),(fun e h=>by cases h)⟩,(fun e h=>by cases h),List.Pairwise.nil⟩,RowO.nil _ _,⟨w.heap.size+2,[],Nat.le_refl _,World.ownsRow_nil _ _ _ _⟩,HD1.o.a0c hc.2 oZ,HD0.o.a0c hc.2 oZ,HC.o.trans hc⟩)
 clear hc hx HC HD1 HD0
 go_wp2_with fail
 go_loopw [4] (fun n wr=>∃(l:P.Dic) (u:Value) (k:Nat),l.length+k≤9∧(0<l.length∨0<k)∧n=.int .i64 k∧DRun B C (N+1000-100*k) w wr l u) (fun n _=>(intOf n).toNat)
 case atStart=>
  obtain⟨h1,h2,h3,h4,h5,h6,h7⟩:=HR.o;exact⟨[],_,x+3,by simp;omega,.inr oZ,by go_num,h1,h2,h3,h4,h5,h6,h7.mono oZ⟩
 case round=>
  obtain⟨l,u,k,hk,hpos,rfl,hr⟩:=hrel;have H3:=qh hr;obtain⟨⟨ua,uc,rfl⟩,hdr,hen,hwh,hbx,hbr,hcp⟩:=hr
  by_cases hp:0<k
  ·have hS:=qh (show wr.drew.cell? ⟨w.heap.size+1,0,none⟩=some (.slice ua l.length uc)∧wr.drew.frozen? ⟨w.heap.size+1,0,none⟩=false from⟨hbx.1,hbx.2.1⟩);have HE1:=qh (hen.below a0e (Below.refl wr.heap.size wr).drew);have HW1:=qh (hwh.a0c (X:=fun _=>False) (Below.chg (Below.refl wr.heap.size wr).drew _) (fun _ _ _ h=>h));have HB1:=qh (hbx.below (Below.refl wr.heap.size wr).drew);have HB0:=qh (hbr.below (Below.refl wr.heap.size wr).drew);have HC1:=qh hcp.drew;have HDR:=qh hdr.1;have HSH:=qh hdr.2;have HPS:=qh hpos;clear hen hwh hbx hbr hcp hdr hpos
   go_upto_region 5 with fail
   refine Left.region [4] (S:=fun v=>v.cell? ⟨w.heap.size+1,0,none⟩=some (.slice ua l.length uc)∧v.frozen? ⟨w.heap.size+1,0,none⟩=false) kZ hS.o (fun hS0=>?_);generalize wr.drew=v0 at *;refine lk6 0 hS0 ?_;refine lk6 1 hS0 ?_;refine lrd 2 fun K hK=>?_;go_simp;refine (b6s B C (N+1000-100*k) _ oZ HC1.o.1).mono ?_;rintro e v1 ⟨o,t,x,rfl,ho,ht,hI,hc⟩;have hz0:w.heap.size+1<v0.heap.size:=HB1.o.2.2;have hz1:v0.heap.size≤v1.heap.size:=hc.2.size;have HE2:=qh (HE1.o.a0c a0e hc.2 (fun b hb e=>by have h1:=hb.1;omega));have HB2:=qh (HB1.o.a0c hc.2 oZ);have HB02:=qh (HB0.o.a0c hc.2 oZ);have HC2:=qh (HC1.o.trans hc);have HI:=qh hI;refine a3i hK dZ ⟨HB2.o.1,HB2.o.2.1⟩ (fun hS1=>?_);clear hK K hc hI HE1 HB1 HB0 HC1;obtain⟨xd,xc,rfl,_,_⟩:=id HI.o
   try simp only [qA,qB,qC,Act.put,qD,qE,qF]
   refine lrd 3 fun K hK=>?_;go_simp;refine (d3a _ _ l o t _ (Ents.read HE2.o) (Ints.read HI.o) HDR.o.small.len HDR.o.small.outs oZ).mono ?_;rintro e v2 ⟨u2,rfl,hI2,hw2,hb⟩;have hz2:v1.heap.size≤v2.heap.size:=hb.size;have HB3:=qh (HB2.o.below hb);have HB03:=qh (HB02.o.below hb);have HC3:=qh (HC2.o.below hb);have HI2:=qh hI2;have HW2:=qh (show a9f v1.heap.size v2 u2 (P.putF (o,t) false l).length from hw2);refine a3i hK dZ ⟨HB3.o.1,HB3.o.2.1⟩ (fun hS2=>?_);clear hK K hb hI2 hw2 HB2 HB02 HC2;obtain⟨u2d,u2c,rfl,_,_⟩:=id HI2.o
   try simp only [qA,qB,qC,Act.put,qD,qE,qF]
   refine lrd 4 fun K hK=>?_;obtain⟨k0,k1,_⟩:=HB3.o;go_simp;refine a8g hK dZ ?_;clear hK K
   try simp only [qA,qB,qC,Act.put,qD,qE,qF]
   refine Left.done kZ ?_ _;have HPL:=qh (P.c7q (o,t) l)
   have HRUN:=qh (show DRun B C (N+1000-100*(k-1)) w (v2.setCell ⟨w.heap.size+1,0,none⟩ (.slice u2d (P.putF (o,t) false l).length u2c)) (P.putF (o,t) false l) (.slice u2d (P.putF (o,t) false l).length u2c) from by
    have hset:Chg (fun b=>b=w.heap.size+1) v2 (v2.setCell ⟨w.heap.size+1,0,none⟩ (.slice u2d (P.putF (o,t) false l).length u2c)):=(Chg.refl (fun b=>b=w.heap.size+1) v2).setCell (p:=⟨w.heap.size+1,0,none⟩) rfl _;have hsz:(v2.setCell ⟨w.heap.size+1,0,none⟩ (.slice u2d (P.putF (o,t) false l).length u2c)).heap.size=v2.heap.size:=by simp [World.setCell]
    refine⟨⟨_,_,rfl⟩,⟨⟨?_,?_,?_⟩,HSH.o.put ho⟩,?_,?_,HB3.o.put,HB03.o.a0c hset oZ,(HC3.o.set (g:=w.heap.size+1) (i:=0) oZ hlt.2 oZ _).mono oZ⟩
    ·have:=HPL.o;have:=HDR.o.len;omega
    ·intro e he
     rcases b6c he with rfl|he
     ·show o.length≤8;omega
     ·exact HDR.o.outs e he
    ·intro e he
     rcases b6c he with rfl|he
     ·exact ht
     ·exact HDR.o.texts e he
    ·refine (HI2.o.a0c a0e hset (fun b hb e=>by have h1:=hb.1;omega)).wide (fun b hb=>⟨by have h1:=hb.1;omega,by rw [hsz];exact hb.2⟩) (fun b hb=>hb.2)
    ·obtain⟨B1,xs,h1,h2⟩:=HW2.o.a0c hset (fun k h1 h2 e=>by omega);exact⟨B1,xs,by omega,h2⟩)
   have HPP:=qh (d2t (o,t) l);clear hS0 hS1 hS2 hS HE2 HI HI2 HW2 HB3 HB03 HC3 k0 k1 HW1;generalize v2.setCell ⟨w.heap.size+1,0,none⟩ (.slice u2d (P.putF (o,t) false l).length u2c)=v3 at *;go_wp2
   go_roundw
   case rel=>exact⟨_,_,k-1,by have:=HPL.o;omega,.inl HPP.o,by go_num,HRUN.o⟩
   case measure=>simp [intOf];omega
  ·have HPS:=qh (show 0<l.length by omega);have HDR:=qh hdr;have HEN:=qh hen;have HWH:=qh hwh;have HCP:=qh hcp;have HBX:=qh hbx;have HBR:=qh hbr;obtain⟨b0,f0,z0⟩:=hbx;obtain⟨r0,g0,y0⟩:=hbr;clear hdr hen hwh hcp hpos;go_wp2;refine bodyPost_ret (v:=.agg #[.slice ua l.length uc]) (by simp [results,Tryz.results110,go_sem,r0]) rfl ⟨l,_,rfl,HDR.o.1,HDR.o.2,by omega,HPS.o,?_,?_,?_⟩
   ·refine b2n w.heap.size HEN.o fun b hb=>?_;have h1:=hb.1;have h2:=hb.2;omega
   ·obtain⟨B1,xs,h1,h2⟩:=HWH.o.a0c ((Chg.refl (fun b=>b=w.heap.size) wr).setCell (p:=⟨w.heap.size,0,none⟩) rfl (.slice ua l.length uc)) (fun k h1 h2 e=>by omega);exact⟨B1,xs,by omega,h2⟩
   ·exact (HCP.o.set (g:=w.heap.size) (i:=0) lZ hlt.2 oZ _).mono oZ
theorem b3v (B C N:Nat) (w:World) (hN:N<2^33) (h:a1r B C N w) :
 Calls Tryz.prog 110 #[.pointer (some ⟨C,0,none⟩)] w (d0j B C (N+1000) w):=
 (b3l B C N w hN h).mono fun _ _ ⟨l,u,h1,h2,_,h4⟩=>⟨l,u,h1,h2,h4⟩
theorem IntR.cut {v:World} {g o cap:Nat} {l:List Int} (h:IntR v (.slice (some ⟨g,o,none⟩) l.length cap) l) {a k:Nat} (hk:a+k≤l.length) (c:Nat) (hc:k≤c):IntR v (.slice (some ⟨g,o+a,none⟩) k c) ((l.drop a).take k):=by
 obtain⟨ad',cap',he,h1,hn,h3⟩:=h;injection he with e1 e2 e3;subst e1 e3;have hlk:((l.drop a).take k).length=k:=by rw [List.length_take,List.length_drop];omega
 refine⟨_,c,by rw [hlk],by omega,(fun h=>by cases h),?_⟩
 rcases h3 with h3|⟨g',o',h4,h5,h6⟩
 ·left;rw [h3];simp
 ·injection h4 with h4;injection h4 with h7 h8;subst h7 h8;refine .inr ⟨_,_,rfl,h5,fun j hj=>?_⟩;have hj':a+j<l.length:=by omega
  rw [List.getElem_take,List.getElem_drop,Nat.add_assoc];exact h6 (a+j) hj'
def d3k (p:P.Pc) (w:World) (e:Ending) (w':World):Prop:=e=.returned (.agg #[.int .i64 p.1.1,.int .i64 p.1.2,.string (S p.2)])∧Below w.heap.size w w'
def PcBx (b:Nat) (v:World):Prop:=v.cell? ⟨b,0,none⟩=some (.int .i64 0)∧v.cell? ⟨b,1,none⟩=some (.int .i64 0)∧v.cell? ⟨b,2,none⟩=some (.string (S []))∧(v.frozen? ⟨b,0,none⟩=false∧v.frozen? ⟨b,1,none⟩=false∧v.frozen? ⟨b,2,none⟩=false)∧b<v.heap.size
theorem PcBx.below {b:Nat} {v v':World} (h:PcBx b v) (hb:Below v.heap.size v v'):PcBx b v':=by
 obtain⟨h1,h2,h3,⟨h4,h5,h6⟩,h7⟩:=h;have hc:Chg (fun _=>False) v v':=Below.chg hb _;exact⟨(hc.cell (p:=⟨b,0,none⟩) h7 id).trans h1,(hc.cell (p:=⟨b,1,none⟩) h7 id).trans h2,(hc.cell (p:=⟨b,2,none⟩) h7 id).trans h3,⟨(hc.frozen (p:=⟨b,0,none⟩) h7 id).trans h4,(hc.frozen (p:=⟨b,1,none⟩) h7 id).trans h5,(hc.frozen (p:=⟨b,2,none⟩) h7 id).trans h6⟩,Nat.lt_of_lt_of_le h7 hb.size⟩
theorem d5h (dv sv:Value) (l:P.Dic) (st:List Int) (a:Nat) (w:World) (hu:EntR w dv l) (hs:IntR w sv st) (ha:a<st.length) :
 Calls Tryz.prog 158 #[.agg #[dv],sv,.int .i64 a] w (d3k (P.a2r l st a) w):=by
 have hb0:Below w.heap.size w ((w.alloc (.cells #[dv] 26)).alloc (.cells #[.int .i64 0,.int .i64 0,.string (S [])] 173)):=((Below.refl w.heap.size w).alloc lZ _).alloc sZ _
 have HB0:=qh hb0;have HU:=qh hu;have HST:=qh hs
 have HX:=qh ((Box1.new dv 26 w).below (bZ.alloc lZ (.cells #[.int .i64 0,.int .i64 0,.string (S [])] 173)))
 have HR:=qh (show PcBx (w.heap.size+1) ((w.alloc (.cells #[dv] 26)).alloc (.cells #[.int .i64 0,.int .i64 0,.string (S [])] 173)) by refine⟨?_,?_,?_,⟨?_,?_,?_⟩,?_⟩<;>go_simp)
 clear hb0
 obtain⟨ad,cap,rfl,_,_⟩:=hu
 obtain⟨sd,sc,rfl,hsl,_⟩:=hs
 obtain⟨g,o,hga,_⟩:=HST.o.at 0 oZ
 subst hga
 have i0:(a:Int)<(st.length:Int):=by omega
 go_enter Tryz.func158,Tryz.ntmps158
 go_wp2_with fail
 go_loopw [7] (fun i wr=>∃n:Nat,n≤6∧a+n≤st.length∧i=.int .i64 n∧P.a2r l st a=P.a3v l st a n∧Box1 w.heap.size (.slice ad l.length cap) wr∧PcBx (w.heap.size+1) wr∧EntR wr (.slice ad l.length cap) l∧Below w.heap.size w wr) (fun i _=>(intOf i).toNat)
 case atStart=>exact⟨min 6 (st.length-a),Nat.min_le_left _ _,by omega,by congr 1;omega,rfl,HX.o,HR.o,HU.o.below HB0.o,HB0.o⟩
 case round=>
  clear HX HR HB0;obtain⟨n,hn6,hns,rfl,hbs,hbx,hpb,hen,hb⟩:=hrel;have HBS:=qh hbs;have HBX:=qh hbx;have HPB:=qh hpb;have HEN:=qh hen;have HB:=qh hb;clear hbs hen;obtain⟨k0,k1⟩:=hbx
  by_cases hn1:1≤n
  ·have i1:(1:Int)≤(n:Int):=by omega
   have i2:(a:Int)+(n:Int)≤(sc:Int):=by omega
   have i3:¬sc=a:=by omega
   have i4:IntKind.i64.wrap ((a:Int)+(n:Int))=(a:Int)+(n:Int):=by rw [IntKind.wrap_i64];omega
   have i5:(0:Int)≤(a:Int)+(n:Int):=by omega
   have i6:a≤((a:Int)+(n:Int)).toNat:=by omega
   have i7:((a:Int)+(n:Int)).toNat-a=n:=by omega
   have hbd:=(Below.refl wr.heap.size wr).drew;have HBD:=qh (hb.trans (hbd.mono hb.size));have HXD:=qh (HBX.o.below hbd);have HPD:=qh (HPB.o.below hbd);have HED:=qh (HEN.o.below hbd);have HFR:=qh (IntR.cut HST.o hns (sc-a) oZ);clear hb hbd hpb
   go_upto_region 4 with fail
   refine wp_region_held_drew (S:=Box1 w.heap.size (.slice ad l.length cap)) kZ HXD.o (fun hS0=>?_);generalize wr.drew=v0 at *;refine tk2 0 hS0 ?_;refine tk2 1 hS0 ?_;refine tk2 2 hS0 ?_;refine tk2 3 hS0 ?_;refine tk2 4 hS0 ?_;refine tk2 5 hS0 ?_;refine tk2 6 hS0 ?_;refine trd 7 fun K hK=>?_;go_simp;refine (b7f _ _ l ((st.drop a).take n) _ HED.o (HFR.o.below HBD.o)).mono ?_;rintro e v1 ⟨rfl,hb⟩;have HB4:=bt HBD hb;have HX4:=qh (HXD.o.below hb);have HP4:=qh (HPD.o.below hb);have HE4:=qh (HED.o.below hb);refine hK.out _ _ (hS0.below hb) (fun hS1=>?_);clear hK K hb hS0
   try simp only [qA,qB,qC,Act.put,qD,qE,qF]
   have HT:=qh (show P.hasE ((st.drop a).take n) l=true→P.a2r l st a=(((a:Int),(n:Int)),P.a3e ((st.drop a).take n) l) from fun h=>by
    obtain⟨m,rfl⟩:∃m,n=m+1:=⟨n-1,by omega⟩;rw [HBS.o];unfold P.a3v;rw [if_pos h])
   have HN:=qh (show P.hasE ((st.drop a).take n) l=false→P.a2r l st a=P.a3v l st a (n-1) from fun h=>by
    obtain⟨m,rfl⟩:∃m,n=m+1:=⟨n-1,by omega⟩;rw [HBS.o];conv=>lhs;unfold P.a3v
    rw [if_neg (by rw [h];decide)];rfl)
   generalize P.a3e ((st.drop a).take n) l=tx at *;generalize P.hasE ((st.drop a).take n) l=q at *;refine tk2 8 hS1 ?_;refine tk2 9 hS1 ?_;refine tk2 10 hS1 ?_;refine tk2 11 hS1 ?_;refine tk2 12 hS1 ?_;refine wpAnyH_done kZ ?_ _;clear hS1
   cases q
   ·have HNN:=qh (HN.o rfl);clear HT HN;go_wp2
    go_roundw
    case rel=>exact⟨n-1,by omega,by omega,by congr 1;omega,HNN.o,HX4.o,HP4.o,HE4.o,HB4.o⟩
    case measure=>simp [intOf];omega
   ·have HTT:=qh (HT.o rfl);clear HT HN;obtain⟨p0,p1,p2,⟨p3,p4,p5⟩,p6⟩:=HP4.o;go_wp2;refine bodyPost_ret (v:=.agg #[.int .i64 a,.int .i64 n,.string (S tx)]) (by simp [results,Tryz.results158,go_sem,p0,p1,p2]) rfl ⟨by rw [HTT.o],?_⟩;exact ((HB4.o.setCell sZ _).setCell sZ _).setCell sZ _
  ·have i1:¬(1:Int)≤(n:Int):=by omega
   have HTT:=qh (show P.a2r l st a=(((a:Int),1),[]) by rw [HBS.o,show n=0 by omega];rfl);clear hb;obtain⟨p0,p1,p2,⟨p3,p4,p5⟩,p6⟩:=HPB.o;go_wp2;refine bodyPost_ret (v:=.agg #[.int .i64 a,.int .i64 1,.string (S [])]) (by simp [results,Tryz.results158,go_sem,p0,p1,p2]) rfl ⟨by rw [HTT.o],?_⟩;exact ((HB.o.setCell sZ _).setCell sZ _).setCell sZ _
def a3u (l:List P.Pc):List Value:=l.flatMap fun p=>[.int .i64 p.1.1,.int .i64 p.1.2,.string (S p.2)]
theorem b3m (l:List P.Pc) (p:P.Pc):a3u (l++[p])=a3u l++[.int .i64 p.1.1,.int .i64 p.1.2,.string (S p.2)]:=by unfold a3u;rw [List.flatMap_append];rfl
theorem b5a:∀(l:List P.Pc) (j:Nat) (h:j<l.length),(a3u l)[j*3]?=some (.int .i64 (l[j]'h).1.1)∧(a3u l)[j*3+1]?=some (.int .i64 (l[j]'h).1.2)∧(a3u l)[j*3+2]?=some (.string (S (l[j]'h).2))
 |a::l,0,_=>⟨rfl,rfl,rfl⟩
 |a::l,j+1,h=>by
  have ih:=b5a l j (by simpa using h)
  have e:∀i,(a3u (a::l))[(j+1)*3+i]?=(a3u l)[j*3+i]?:=fun i=>by
   show ([Value.int .i64 a.1.1,.int .i64 a.1.2,.string (S a.2)]++a3u l)[(j+1)*3+i]?=_
   rw [List.getElem?_append_right (by simp;omega)]
   congr 1
   simp;omega
  refine⟨?_,?_,?_⟩
  ·have:=e 0;rw [Nat.add_zero,Nat.add_zero]at this;rw [this];exact ih.1
  ·rw [e 1];exact ih.2.1
  ·rw [e 2];exact ih.2.2
def PcR (v:World) (u:Value) (l:List P.Pc):Prop:=
 ∃(ad:Option Addr) (cap:Nat),u=.slice ad l.length cap∧l.length≤2^30∧(l=[]∨∃g o,ad=some ⟨g,o,none⟩∧g<v.heap.size∧∀(j:Nat) (h:j<l.length),v.cell? ⟨g,o+j*3,none⟩=some (.int .i64 (l[j]'h).1.1)∧v.cell? ⟨g,o+j*3+1,none⟩=some (.int .i64 (l[j]'h).1.2)∧v.cell? ⟨g,o+j*3+2,none⟩=some (.string (S (l[j]'h).2)))
theorem PcR.below {v v':World} {u:Value} {l:List P.Pc} (h:PcR v u l) (hb:Below v.heap.size v v'):PcR v' u l:=by
 obtain⟨ad,cap,h1,h2,h3⟩:=h;refine⟨ad,cap,h1,h2,h3.imp id ?_⟩;rintro⟨g,o,h4,h5,h6⟩;refine⟨g,o,h4,Nat.lt_of_lt_of_le h5 hb.size,fun j hj=>?_⟩;obtain⟨a,b,c⟩:=h6 j hj;exact⟨(hb.cell (p:=⟨g,_,none⟩) h5).trans a,(hb.cell (p:=⟨g,_,none⟩) h5).trans b,(hb.cell (p:=⟨g,_,none⟩) h5).trans c⟩
theorem PcR.at {v:World} {ad:Option Addr} {n cap:Nat} {l:List P.Pc} (h:PcR v (.slice ad n cap) l) (j:Nat) (hj:j<l.length):∃g o,ad=some ⟨g,o,none⟩∧g<v.heap.size∧v.cell? ⟨g,o+j*3,none⟩=some (.int .i64 (l[j]'hj).1.1)∧v.cell? ⟨g,o+j*3+1,none⟩=some (.int .i64 (l[j]'hj).1.2)∧v.cell? ⟨g,o+j*3+2,none⟩=some (.string (S (l[j]'hj).2)):=by
 obtain⟨ad',cap',he,_,h3⟩:=h;exact zq20
def OwnP (B:Nat) (v:World) (u:Value) (l:List P.Pc):Prop:=v.ownsRow B 173 3 u l.length (a3u l)
theorem OwnP.form {B:Nat} {v:World} {u:Value} {l:List P.Pc} (h:OwnP B v u l):∃ad cap,u=.slice ad l.length cap:=by
 exact zq18
theorem OwnP.read {B:Nat} {v:World} {u:Value} {l:List P.Pc} (h:OwnP B v u l) (hl:l.length≤2^30):PcR v u l:=by
 unfold OwnP at h
 rcases id h.2 with⟨rfl,h0⟩|⟨g,cap,cur,rfl,hg,_⟩
 ·have e:l=[]:=List.eq_nil_of_length_eq_zero h0;subst e;exact⟨none,0,rfl,by simp,.inl rfl⟩
 ·refine⟨some ⟨g,0,none⟩,cap,rfl,hl,.inr ⟨g,0,rfl,(World.ownsRow.lt h g rfl).2,fun j hj=>?_⟩⟩;obtain⟨a,b,c⟩:=b5a l j hj;have c1:=World.ownsRow.cellAt h (j*3) oZ;have c2:=World.ownsRow.cellAt h (j*3+1) oZ;have c3:=World.ownsRow.cellAt h (j*3+2) oZ;exact⟨by rw [Nat.zero_add];exact c1.trans a,by rw [Nat.zero_add];exact c2.trans b,by rw [Nat.zero_add];exact c3.trans c⟩
theorem b9n:(Tryz.prog.info? 173).map (fun i=>(i.zero,i.size,i.bytes))=some (some (.agg #[.int .i64 0,.int .i64 0,.string ⟨#[]⟩]),3,32):=by kernel_rfl
structure SgR (w:World) (dv:Value) (l:P.Dic) (st:List Int) (s:Value) (row:List P.Pc) (a f:Nat) (v:World):Prop where
 own:OwnP (w.heap.size+1) v s row
 bx:DBx w.heap.size dv v
 bel:Below w.heap.size w v
 fuel:st.length-a≤f
 seg:P.segA l st=row++P.segs l st f a
 la:a≤st.length
 lr:row.length≤a
theorem SgR.app {w v v1 v':World} {dv s u':Value} {l:P.Dic} {st:List Int} {row:List P.Pc} {a f a' f':Nat} {p:P.Pc} (h:SgR w dv l st s row a f v) (hb:Below v.heap.size v v1)
 (hown:v'.ownsRow (w.heap.size+1) 173 3 u' (row.length+1) (a3u row++[.int .i64 p.1.1,.int .i64 p.1.2,.string (S p.2)])) (hgr:v1.grownBy v' s.ownBlock)
 (h1:st.length-a'≤f') (h2:P.segs l st f a=p::P.segs l st f' a') (h3:a'≤st.length) (h4:a<a'):SgR w dv l st u' (row++[p]) a' f' v':=by
 have hz:=h.bel.size
 have hz1:=hb.size
 have hlt:∀k,s.ownBlock=some k→w.heap.size+1≤k:=fun k hk=>(World.ownsRow.lt h.own k hk).1
 have hc:Chg (fun b=>s.ownBlock=some b) v1 v':=Chg.grown hgr
 refine⟨?_,(h.bx.below hb).a0c hc (fun e=>by have:=hlt _ e;omega),(h.bel.trans (hb.mono hz)).trans (hc.below oZ (fun b e=>by have:=hlt b e;omega)),h1,?_,h3,?_⟩
 ·unfold OwnP;rw [b3m,List.length_append];exact hown
 ·rw [h.seg,h2,List.append_assoc];rfl
 ·rw [List.length_append];have:=h.lr;simp;omega
def SgPost (l:List P.Pc) (w:World) (e:Ending) (w':World):Prop:=∃u,e=.returned u∧PcR w' u l∧Below w.heap.size w w'
theorem c6p (dv sv:Value) (l:P.Dic) (st:List Int) (w:World) (hu:EntR w dv l) (hs:IntR w sv st) (hl60:st.length≤60) :
 Calls Tryz.prog 87 #[.agg #[dv],sv] w (SgPost (P.segA l st) w):=by
 obtain⟨i0,hi,hz0,hz1,hz2⟩:=info_parts b9n
 have hb0:Below w.heap.size w ((w.alloc (.cells #[dv] 26)).alloc (.cells #[] 173)):=((Below.refl w.heap.size w).alloc lZ _).alloc sZ _
 have HST:=qh hs;have HU:=qh hu
 have HG:=qh (show SgR w dv l st (.slice (some ⟨w.heap.size+1,0,none⟩) 0 0) [] 0 st.length ((w.alloc (.cells #[dv] 26)).alloc (.cells #[] 173)) from
  ⟨by have h:=World.ownsRow_lit (base:=w.heap.size+1) (e:=173) (size:=3) (w.alloc (.cells #[dv] 26)) #[] 0 sZ (Nat.zero_le _) sZ;simp at h;exact h,
   (DBx.new dv 26 w).below (bZ.alloc lZ _),hb0,by omega,rfl,by omega,by simp⟩)
 clear hb0
 obtain⟨ad,cap,rfl,_,_⟩:=hu
 obtain⟨sd,sc,rfl,hsl,_⟩:=hs
 go_enter Tryz.func87,Tryz.ntmps87
 go_wp2_with fail
 go_loopw [5,6] (fun s i wr=>∃(row:List P.Pc) (a f:Nat),i=.int .i64 a∧SgR w (.slice ad l.length cap) l st s row a f wr) (fun _ i _=>st.length-(intOf i).toNat)
 case atStart=>exact⟨[],0,st.length,rfl,HG.o⟩
 case round=>
  clear HG;obtain⟨row,a,f,rfl,hg⟩:=hrel;have HG:=qh hg;obtain⟨ua,uc,rfl⟩:=hg.own.form
  by_cases hlt:a<st.length
  ·have i1:(a:Int)<(st.length:Int):=by omega
   obtain⟨k,hk,hk1,hk2⟩:=P.b5c (d:=l) hlt;have HK:=qh (P.b8b hlt hg.fuel hk hk1);have HKE:=qh hk;have hra:=hg.lr;obtain⟨k0,_⟩:=hg.bx;clear hg hk
   go_wp2_with fail
   refine (d5h _ _ l st a _ (HU.o.below HG.o.bel) (HST.o.below HG.o.bel) hlt).mono ?_;rintro e w1 ⟨rfl,hb⟩;rw [HKE.o];obtain⟨tx,htx⟩:∃tx,(P.a2r l st a).2=tx:=⟨_,rfl⟩;rw [htx];have HPE:=qh (show P.a2r l st a=(((a:Int),(k:Int)),tx) from Prod.ext HKE.o htx);clear htx k0;have hbx:Below w1.heap.size w1 ((w1.alloc (.cells #[.int .i64 a,.int .i64 k,.string (S tx)] 173)).alloc (.cells #[.int .i64 a,.int .i64 k,.string (S tx)] 173)):=(bZ.alloc lZ _).alloc sZ _;have HB1:=qh (hb.trans (hbx.mono hb.size));have HZ:=qh (show w.heap.size+1≤w1.heap.size by have h1:=hb.size;have h2:=HG.o.bx.2.2;omega);have HOW:=qh (show OwnP (w.heap.size+1) ((w1.alloc (.cells #[.int .i64 a,.int .i64 k,.string (S tx)] 173)).alloc (.cells #[.int .i64 a,.int .i64 k,.string (S tx)] 173)) (.slice ua row.length uc) row from a0g HG.o.own (Below.chg HB1.o (fun _=>False)) (fun _ _ h=>h));have HLT:=qh (show ∀j,(Value.slice ua row.length uc).ownBlock=some j→j<w1.heap.size from fun j hj=>Nat.lt_of_lt_of_le (World.ownsRow.lt HG.o.own j hj).2 hb.size);clear hb hbx
   go_wp2_with (at_builtin;refine wpList_append_own _ rfl _ _ 115 rfl (w.heap.size+1) 173 i0 (.agg #[.int .i64 0,.int .i64 0,.string ⟨#[]⟩]) 3 32 Tryz.underlying115 hi hz0 hz1 hz2 rfl dZ (.slice ua row.length uc) row.length (a3u row) rfl HOW.o ⟨w1.heap.size+1,0,none⟩ 1 1 [.int .i64 a,.int .i64 k,.string (S tx)] rfl rfl ?_ ?_ ?_ ?_ ?_ ?_)
   all_goals first|exact⟨rfl,rfl⟩|(intro z hz;simp only [List.mem_cons,List.not_mem_nil,or_false]at hz;rcases hz with rfl|rfl|rfl<;>rfl)|(unfold maxLen;omega)|omega|(have h1:=HZ.o;simp;omega)|(intro i z hz;rcases i with _|_|_|i;(injection hz with hz;subst hz;rw [add0];go_simp);(injection hz with hz;subst hz;go_simp);(injection hz with hz;subst hz;go_simp);cases hz)|skip
   intro u4 w4 hown hgr _;obtain⟨f',hf',hse⟩:=HK.o;have HG4:=qh (HG.o.app (p:=(((a:Int),(k:Int)),tx)) (a':=a+k) (f':=f') HB1.o hown hgr hf' (by rw [hse,HPE.o]) hk2 oZ)
   have c1:w4.cell? ⟨w1.heap.size,1,none⟩=some (.int .i64 k):=by
    rw [(Chg.grown hgr).cell (p:=⟨w1.heap.size,1,none⟩) (by simp;omega) (fun e=>absurd (HLT.o _ e) (Nat.lt_irrefl _))];go_simp
   obtain⟨ub,uc4,rfl⟩:=HG4.o.own.form;exact zq63
  ·have HE:=qh (show P.segA l st=row by rw [hg.seg,P.c1l oZ,List.append_nil]);have hra:=hg.lr;have hla:=hg.la;clear hg;go_wp2;go_ret;exact⟨_,rfl,by rw [HE.o];exact HG.o.own.read oZ,HG.o.bel⟩
theorem c5p (dv sv:Value) (l:P.Dic) (st:List Int) (w:World) (hu:EntR w dv l) (hs:IntR w sv st) (hm:Small l) (hE:Env w) :
 Calls Tryz.prog 85 #[.agg #[dv],sv] w fun e w'=>e=.returned (.bool (P.dic l&&P.a1t st))∧Below w.heap.size w w':=by
 have hb0:Below w.heap.size w (w.alloc (.cells #[dv] 26)):=bZ.alloc lZ _
 have HU:=qh (hu.below hb0);have HST:=qh (hs.below hb0);have HB0:=qh hb0;have HE:=qh (hE.below hb0 hE.size)
 clear hb0
 obtain⟨ad,cap,rfl,_,_⟩:=hu
 obtain⟨sd,sc,rfl,_,_⟩:=hs
 go_enter Tryz.func85,Tryz.ntmps85
 go_wp2_with fail
 refine (a0v _ l _ HU.o hm.texts HE.o).mono ?_
 rintro e w1 ⟨rfl,hb⟩
 have HB1:=bt HB0 hb;have HST1:=qh (HST.o.below hb)
 clear hb
 obtain⟨q,hq⟩:∃q,P.dic l=q:=⟨_,rfl⟩
 have HQ:=qh hq
 rw [hq]
 clear hq
 cases q
 ·go_wp2;go_ret;exact⟨a0b (by rw [HQ.o];rfl),HB1.o⟩
 ·go_wp2_with fail
  refine (b8d _ st _ HST1.o).mono ?_;rintro e w2 ⟨rfl,hb⟩;have HB2:=bt HB1 hb;clear hb;obtain⟨q,hq⟩:∃q,P.a1t st=q:=⟨_,rfl⟩;have HQ2:=qh hq;rw [hq];clear hq;go_wp2;go_ret;exact⟨a0b (by rw [HQ.o,HQ2.o];rfl),HB2.o⟩
end Go.Proofs.YtggfdnopminemaaGreatDoor

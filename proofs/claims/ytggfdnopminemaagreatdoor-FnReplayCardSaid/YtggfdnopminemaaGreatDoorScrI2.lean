/- Walks: segmentation by. -/
import Derived.Test.YtggfdnopminemaaGreatDoorWalkT
set_option linter.all false
namespace Go.Proofs.YtggfdnopminemaaGreatDoor
open Go.Proofs.Tryz
open Go Go.RowKit
set_option maxHeartbeats 8000000
set_option maxRecDepth 100000
variable {B a cap:Nat} {u:Go.Value} {v v' w:Go.World}
theorem IntR.cut {g o:Nat} {l:List Int} (h:IntR v (.slice (some ⟨g,o,none⟩) l.length cap) l) {k:Nat} (hk:a+k<=l.length) (c:Nat) (hc:k<=c):IntR v (.slice (some ⟨g,o+a,none⟩) k c) ((l.drop a).take k):=by
 obtain⟨ad',cap',he,h1,hn,h3⟩:=h;injection he with e1 e2 e3;subst e1 e3;have hlk:((l.drop a).take k).length=k:=by rw [List.length_take,List.length_drop];omega
 refine⟨_,c,by rw [hlk],by omega,(λh=>by cases h),?_⟩
 rcases h3 with h3|⟨g',o',h4,h5,h6⟩
 .left;rw [h3];simp
 .injection h4 with h4;injection h4 with h7 h8;subst h7 h8;refine .inr ⟨_,_,rfl,h5,λj hj=>?_⟩;have hj':a+j<l.length:=by omega
  rw [List.getElem_take,List.getElem_drop,Nat.add_assoc];exact h6 (a+j) hj'
def e1w (p:P.Pc) (w:World) (e:Ending) (w':World):Prop:=e=.returned (.agg #[.int .i64 p.1.1,.int .i64 p.1.2,.string (S p.2)])/\Bl w w'
def PcBx (b:Nat) (v:World):Prop:=v.cell? ⟨b,0,none⟩=some (.int .i64 0)/\v.cell? ⟨b,1,none⟩=some (.int .i64 0)/\v.cell? ⟨b,2,none⟩=some (.string (S []))/\(v.frozen? ⟨b,0,none⟩=false/\v.frozen? ⟨b,1,none⟩=false/\v.frozen? ⟨b,2,none⟩=false)/\b<v.heap.size
theorem PcBx.below {b:Nat} (h:PcBx b v) (hb:Bl v v'):PcBx b v':=by
 obtain⟨h1,h2,h3,⟨h4,h5,h6⟩,h7⟩:=h;have hc:Chg (λ_=>False) v v':=Below.chg hb _;exact⟨(hc.cell (p:=⟨b,0,none⟩) h7 id).trans h1,(hc.cell (p:=⟨b,1,none⟩) h7 id).trans h2,(hc.cell (p:=⟨b,2,none⟩) h7 id).trans h3,⟨(hc.frozen (p:=⟨b,0,none⟩) h7 id).trans h4,(hc.frozen (p:=⟨b,1,none⟩) h7 id).trans h5,(hc.frozen (p:=⟨b,2,none⟩) h7 id).trans h6⟩,Nat.lt_of_lt_of_le h7 hb.size⟩
theorem e4s (dv sv:Value) (l:P.Dic) (st:List Int) (a:Nat) (w:World) (hu:EntR w dv l) (hs:IntR w sv st) (ha:a<st.length) :
 Cz 158 #[.agg #[dv],sv,.int .i64 a] w (e1w (P.a3l l st a) w):=by
 refine zm17 ?_;intro HB0 HU HST HX HR;obtain⟨ad,cap,rfl,_,_⟩:=hu;obtain⟨sd,sc,rfl,hsl,_⟩:=hs;obtain⟨g,o,hga,_⟩:=HST.o.at 0 oZ;subst hga;have i0:(a:Int)<(st.length:Int):=by omega
 go_enter func158,ntmps158;go_wp2_with fail;go_loopw [7] (λi wr=>∃n:Nat,n<=6/\a+n<=st.length/\i=.int .i64 n/\P.a3l l st a=P.a5b l st a n/\Box1 w.heap.size (.slice ad l.length cap) wr/\PcBx (w.heap.size+1) wr/\EntR wr (.slice ad l.length cap) l/\Bl w wr) (λi _=>(intOf i).toNat)
 case atStart=>exact⟨min 6 (st.length-a),Nat.min_le_left _ _,by omega,by congr 1;omega,rfl,HX.o,HR.o,HU.o.below HB0.o,HB0.o⟩
 case round=>
  clear HX HR HB0;obtain⟨n,hn6,hns,rfl,hbs,hbx,hpb,hen,hb⟩:=hrel;have HBS:=qh hbs;have HBX:=qh hbx;have HPB:=qh hpb;have HEN:=qh hen;have HB:=qh hb;clear hbs hen;obtain⟨k0,k1⟩:=hbx
  by_cases hn1:1<=n
  .have i1:(1:Int)<=(n:Int):=by omega
   have i2:(a:Int)+(n:Int)<=(sc:Int):=by omega
   have i3:¬sc=a:=by omega
   have i4:IntKind.i64.wrap ((a:Int)+(n:Int))=(a:Int)+(n:Int):=by rw [IntKind.wrap_i64];omega
   have i5:(0:Int)<=(a:Int)+(n:Int):=by omega
   have i6:a<=((a:Int)+(n:Int)).toNat:=by omega
   have i7:((a:Int)+(n:Int)).toNat-a=n:=by omega
   have hbd:=(Below.refl wr.heap.size wr).drew;have HBD:=qh (hb.trans (hbd.mono hb.size));have HXD:=qh (HBX.o.below hbd);have HPD:=qh (HPB.o.below hbd);have HED:=qh (HEN.o.below hbd);have HFR:=qh (IntR.cut HST.o hns (sc-a) oZ);clear hb hbd hpb;go_upto_region 4 with fail;refine wp_region_held_drew (S:=Box1 w.heap.size (.slice ad l.length cap)) kZ HXD.o (λhS0=>?_);generalize wr.drew=v0 at *;refine zm39 ?_;intro K hK;go_simp;refine (c4y _ _ l ((st.drop a).take n) _ HED.o (HFR.o.below HBD.o)).mono ?_;rintro e v1 ⟨rfl,hb⟩;have HB4:=bt HBD hb;have HX4:=qh (HXD.o.below hb);have HP4:=qh (HPD.o.below hb);have HE4:=qh (HED.o.below hb);refine zm71 ?_;intro hS1;clear hK K hb hS0;refine zm0 ?_
   have HT:=qh (show P.hasE ((st.drop a).take n) l=true->P.a3l l st a=(((a:Int),(n:Int)),P.a3a ((st.drop a).take n) l) from λh=>by
    obtain⟨m,rfl⟩:∃m,n=m+1:=⟨n-1,by omega⟩;rw [HBS.o];unfold P.a5b;rw [if_pos h])
   have HN:=qh (show P.hasE ((st.drop a).take n) l=false->P.a3l l st a=P.a5b l st a (n-1) from λh=>by
    obtain⟨m,rfl⟩:∃m,n=m+1:=⟨n-1,by omega⟩;rw [HBS.o];conv=>lhs;unfold P.a5b
    rw [if_neg (by rw [h];decide)];rfl)
   generalize P.a3a ((st.drop a).take n) l=tx at *;generalize P.hasE ((st.drop a).take n) l=q at *;refine tk3 8 hS1 ?_;refine tk3 9 hS1 ?_;refine tk3 10 hS1 ?_;refine tk3 11 hS1 ?_;refine tk3 12 hS1 ?_;refine wpAnyH_done kZ ?_ _;clear hS1
   cases q
   .have HNN:=qh (HN.o rfl);clear HT HN;go_wp2
    go_roundw
    case rel=>exact⟨n-1,by omega,by omega,by congr 1;omega,HNN.o,HX4.o,HP4.o,HE4.o,HB4.o⟩
    case measure=>exact zq
   .have HTT:=qh (HT.o rfl);clear HT HN;obtain⟨p0,p1,p2,⟨p3,p4,p5⟩,p6⟩:=HP4.o;go_wp2;refine bodyPost_ret (v:=.agg #[.int .i64 a,.int .i64 n,.string (S tx)]) (by simp [results,results158,go_sem,p0,p1,p2]) rfl ⟨by rw [HTT.o],?_⟩;exact ((HB4.o.setCell sZ _).setCell sZ _).setCell sZ _
  .have i1:¬(1:Int)<=(n:Int):=by omega
   have HTT:=qh (show P.a3l l st a=(((a:Int),1),[]) by rw [HBS.o,show n=0 by omega];rfl);clear hb;obtain⟨p0,p1,p2,⟨p3,p4,p5⟩,p6⟩:=HPB.o;go_wp2;refine bodyPost_ret (v:=.agg #[.int .i64 a,.int .i64 1,.string (S [])]) (by simp [results,results158,go_sem,p0,p1,p2]) rfl ⟨by rw [HTT.o],?_⟩;exact ((HB.o.setCell sZ _).setCell sZ _).setCell sZ _
def a5a (l:List P.Pc):List Value:=l.flatMap λp=>[.int .i64 p.1.1,.int .i64 p.1.2,.string (S p.2)]
theorem b7f (l:List P.Pc) (p:P.Pc):a5a (l++[p])=a5a l++[.int .i64 p.1.1,.int .i64 p.1.2,.string (S p.2)]:=by unfold a5a;rw [List.flatMap_append];rfl
theorem c0d:∀(l:List P.Pc) (j:Nat) (h:j<l.length),(a5a l)[j*3]?=some (.int .i64 (l[j]'h).1.1)/\(a5a l)[j*3+1]?=some (.int .i64 (l[j]'h).1.2)/\(a5a l)[j*3+2]?=some (.string (S (l[j]'h).2))
 |a::l,0,_=>⟨rfl,rfl,rfl⟩
 |a::l,j+1,h=>by
  have ih:=c0d l j (by simpa using h)
  have e:∀i,(a5a (a::l))[(j+1)*3+i]?=(a5a l)[j*3+i]?:=λi=>by
   show ([Value.int .i64 a.1.1,.int .i64 a.1.2,.string (S a.2)]++a5a l)[(j+1)*3+i]?=_
   rw [List.getElem?_append_right (by simp;omega)]
   congr 1
   simp;omega
  refine⟨?_,?_,?_⟩
  .have:=e 0;rw [Nat.add_zero,Nat.add_zero]at this;rw [this];exact ih.1
  .rw [e 1];exact ih.2.1
  .rw [e 2];exact ih.2.2
def PcR (v:World) (u:Value) (l:List P.Pc):Prop:=
 ∃(ad:Option Addr) (cap:Nat),u=.slice ad l.length cap/\l.length<=2^30/\(l=[]\/∃g o,ad=some ⟨g,o,none⟩/\g<v.heap.size/\∀(j:Nat) (h:j<l.length),v.cell? ⟨g,o+j*3,none⟩=some (.int .i64 (l[j]'h).1.1)/\v.cell? ⟨g,o+j*3+1,none⟩=some (.int .i64 (l[j]'h).1.2)/\v.cell? ⟨g,o+j*3+2,none⟩=some (.string (S (l[j]'h).2)))
theorem PcR.below {l:List P.Pc} (h:PcR v u l) (hb:Bl v v'):PcR v' u l:=by
 obtain⟨ad,cap,h1,h2,h3⟩:=h;refine⟨ad,cap,h1,h2,h3.imp id ?_⟩;rintro⟨g,o,h4,h5,h6⟩;refine⟨g,o,h4,Nat.lt_of_lt_of_le h5 hb.size,λj hj=>?_⟩;obtain⟨a,b,c⟩:=h6 j hj;exact⟨(hb.cell (p:=⟨g,_,none⟩) h5).trans a,(hb.cell (p:=⟨g,_,none⟩) h5).trans b,(hb.cell (p:=⟨g,_,none⟩) h5).trans c⟩
theorem PcR.at {ad:Option Addr} {n:Nat} {l:List P.Pc} (h:PcR v (.slice ad n cap) l) (j:Nat) (hj:j<l.length):∃g o,ad=some ⟨g,o,none⟩/\g<v.heap.size/\v.cell? ⟨g,o+j*3,none⟩=some (.int .i64 (l[j]'hj).1.1)/\v.cell? ⟨g,o+j*3+1,none⟩=some (.int .i64 (l[j]'hj).1.2)/\v.cell? ⟨g,o+j*3+2,none⟩=some (.string (S (l[j]'hj).2)):=by
 obtain⟨ad',cap',he,_,h3⟩:=h;exact zq58
def OwnP (B:Nat) (v:World) (u:Value) (l:List P.Pc):Prop:=v.ownsRow B 173 3 u l.length (a5a l)
theorem OwnP.form {l:List P.Pc} (h:OwnP B v u l):∃ad cap,u=.slice ad l.length cap:=by
 exact zq59
theorem OwnP.read {l:List P.Pc} (h:OwnP B v u l) (hl:l.length<=2^30):PcR v u l:=by
 unfold OwnP at h
 rcases id h.2 with⟨rfl,h0⟩|⟨g,cap,cur,rfl,hg,_⟩
 .have e:l=[]:=List.eq_nil_of_length_eq_zero h0;subst e;exact⟨none,0,rfl,by simp,.inl rfl⟩
 .refine⟨some ⟨g,0,none⟩,cap,rfl,hl,.inr ⟨g,0,rfl,(World.ownsRow.lt h g rfl).2,λj hj=>?_⟩⟩;obtain⟨a,b,c⟩:=c0d l j hj;have c1:=World.ownsRow.cellAt h (j*3) oZ;have c2:=World.ownsRow.cellAt h (j*3+1) oZ;have c3:=World.ownsRow.cellAt h (j*3+2) oZ;exact⟨by rw [Nat.zero_add];exact c1.trans a,by rw [Nat.zero_add];exact c2.trans b,by rw [Nat.zero_add];exact c3.trans c⟩
theorem c6r:(Tryz.prog.info? 173).map (λi=>(i.zero,i.size,i.bytes))=some (some (.agg #[.int .i64 0,.int .i64 0,.string ⟨#[]⟩]),3,32):=by kernel_rfl
structure SgR (w:World) (dv:Value) (l:P.Dic) (st:List Int) (s:Value) (row:List P.Pc) (a f:Nat) (v:World):Prop where
 own:OwnP (w.heap.size+1) v s row
 bx:DBx w.heap.size dv v
 bel:Bl w v
 fuel:st.length-a<=f
 seg:P.segA l st=row++P.segs l st f a
 la:a<=st.length
 lr:row.length<=a
theorem SgR.app {v1:World} {dv s u':Value} {l:P.Dic} {st:List Int} {row:List P.Pc} {f a' f':Nat} {p:P.Pc} (h:SgR w dv l st s row a f v) (hb:Bl v v1)
 (hown:v'.ownsRow (w.heap.size+1) 173 3 u' (row.length+1) (a5a row++[.int .i64 p.1.1,.int .i64 p.1.2,.string (S p.2)])) (hgr:v1.grownBy v' s.ownBlock)
 (h1:st.length-a'<=f') (h2:P.segs l st f a=p::P.segs l st f' a') (h3:a'<=st.length) (h4:a<a'):SgR w dv l st u' (row++[p]) a' f' v':=by
 have hz:=h.bel.size
 have hz1:=hb.size
 have hlt:∀k,s.ownBlock=some k->w.heap.size+1<=k:=λk hk=>(World.ownsRow.lt h.own k hk).1
 have hc:Chg (λb=>s.ownBlock=some b) v1 v':=Chg.grown hgr
 refine⟨?_,(h.bx.below hb).a0b hc (λe=>by have:=hlt _ e;omega),(h.bel.trans (hb.mono hz)).trans (hc.below oZ (λb e=>by have:=hlt b e;omega)),h1,?_,h3,?_⟩
 .unfold OwnP;rw [b7f,List.length_append];exact hown
 .rw [h.seg,h2,List.append_assoc];rfl
 .rw [List.length_append];have:=h.lr;simp;omega
def SgPost (l:List P.Pc) (w:World) (e:Ending) (w':World):Prop:=∃u,e=.returned u/\PcR w' u l/\Bl w w'
theorem d5c (dv sv:Value) (l:P.Dic) (st:List Int) (w:World) (hu:EntR w dv l) (hs:IntR w sv st) (hl60:st.length<=60) :
 Cz 87 #[.agg #[dv],sv] w (SgPost (P.segA l st) w):=by
 obtain⟨i0,hi,hz0,hz1,hz2⟩:=info_parts c6r
 have hb0:Bl w ((w.alloc (.cells #[dv] 26)).alloc (.cells #[] 173)):=((Below.refl w.heap.size w).alloc lZ _).alloc sZ _
 have HST:=qh hs;have HU:=qh hu
 have HG:=qh (show SgR w dv l st (.slice (some ⟨w.heap.size+1,0,none⟩) 0 0) [] 0 st.length ((w.alloc (.cells #[dv] 26)).alloc (.cells #[] 173)) from
  ⟨by have h:=World.ownsRow_lit (base:=w.heap.size+1) (e:=173) (size:=3) (w.alloc (.cells #[dv] 26)) #[] 0 sZ (Nat.zero_le _) sZ;simp at h;exact h,
   (DBx.new dv 26 w).below (bZ.alloc lZ _),hb0,by omega,rfl,by omega,by simp⟩)
 clear hb0
 obtain⟨ad,cap,rfl,_,_⟩:=hu
 obtain⟨sd,sc,rfl,hsl,_⟩:=hs
 go_enter func87,ntmps87
 go_wp2_with fail
 go_loopw [5,6] (λs i wr=>∃(row:List P.Pc) (a f:Nat),i=.int .i64 a/\SgR w (.slice ad l.length cap) l st s row a f wr) (λ_ i _=>st.length-(intOf i).toNat)
 case atStart=>exact⟨[],0,st.length,rfl,HG.o⟩
 case round=>
  clear HG;obtain⟨row,a,f,rfl,hg⟩:=hrel;have HG:=qh hg;obtain⟨ua,uc,rfl⟩:=hg.own.form
  by_cases hlt:a<st.length
  .have i1:(a:Int)<(st.length:Int):=by omega
   obtain⟨k,hk,hk1,hk2⟩:=P.b9c (d:=l) hlt;have HK:=qh (P.c5s hlt hg.fuel hk hk1);have HKE:=qh hk;have hra:=hg.lr;obtain⟨k0,_⟩:=hg.bx;clear hg hk
   go_wp2_with fail
   refine (e4s _ _ l st a _ (HU.o.below HG.o.bel) (HST.o.below HG.o.bel) hlt).mono ?_;rintro e w1 ⟨rfl,hb⟩;rw [HKE.o];obtain⟨tx,htx⟩:∃tx,(P.a3l l st a).2=tx:=⟨_,rfl⟩;rw [htx];have HPE:Hq (P.a3l l st a=(((a:Int),(k:Int)),tx)):=⟨Prod.ext HKE.o htx⟩;clear htx k0;have hbx:Bl w1 ((w1.alloc (.cells #[.int .i64 a,.int .i64 k,.string (S tx)] 173)).alloc (.cells #[.int .i64 a,.int .i64 k,.string (S tx)] 173)):=(bZ.alloc lZ _).alloc sZ _;have HB1:=qh (hb.trans (hbx.mono hb.size));have HZ:=qh (show w.heap.size+1<=w1.heap.size by have h1:=hb.size;have h2:=HG.o.bx.2.2;omega);have HOW:Hq (OwnP (w.heap.size+1) ((w1.alloc (.cells #[.int .i64 a,.int .i64 k,.string (S tx)] 173)).alloc (.cells #[.int .i64 a,.int .i64 k,.string (S tx)] 173)) (.slice ua row.length uc) row):=⟨a1f HG.o.own (Below.chg HB1.o (λ_=>False)) (λ_ _ h=>h)⟩;have HLT:Hq (∀j,(Value.slice ua row.length uc).ownBlock=some j->j<w1.heap.size):=⟨λj hj=>Nat.lt_of_lt_of_le (World.ownsRow.lt HG.o.own j hj).2 hb.size⟩;clear hb hbx
   go_wp2_with (at_builtin;refine wpList_append_own _ rfl _ _ 115 rfl (w.heap.size+1) 173 i0 (.agg #[.int .i64 0,.int .i64 0,.string ⟨#[]⟩]) 3 32 underlying115 hi hz0 hz1 hz2 rfl dZ (.slice ua row.length uc) row.length (a5a row) rfl HOW.o ⟨w1.heap.size+1,0,none⟩ 1 1 [.int .i64 a,.int .i64 k,.string (S tx)] rfl rfl ?_ ?_ ?_ ?_ ?_ ?_)
   all_goals first|exact⟨rfl,rfl⟩|(intro z hz;simp only [List.mem_cons,List.not_mem_nil,or_false]at hz;rcases hz with rfl|rfl|rfl<;>rfl)|(unfold maxLen;omega)|omega|(have h1:=HZ.o;simp;omega)|(intro i z hz;rcases i with _|_|_|i;(injection hz with hz;subst hz;rw [add0];go_simp);(injection hz with hz;subst hz;go_simp);(injection hz with hz;subst hz;go_simp);cases hz)|skip
   intro u4 w4 hown hgr _;obtain⟨f',hf',hse⟩:=HK.o;have HG4:=qh (HG.o.app (p:=(((a:Int),(k:Int)),tx)) (a':=a+k) (f':=f') HB1.o hown hgr hf' (by rw [hse,HPE.o]) hk2 oZ)
   have c1:w4.cell? ⟨w1.heap.size,1,none⟩=some (.int .i64 k):=by
    rw [(Chg.grown hgr).cell (p:=⟨w1.heap.size,1,none⟩) (by simp;omega) (λe=>absurd (HLT.o _ e) (Nat.lt_irrefl _))];go_simp
   obtain⟨ub,uc4,rfl⟩:=HG4.o.own.form;exact zq151
  .have HE:=qh (show P.segA l st=row by rw [hg.seg,P.c9p oZ,List.append_nil]);have hra:=hg.lr;have hla:=hg.la;clear hg;go_wp2;go_ret;exact⟨_,rfl,by rw [HE.o];exact HG.o.own.read oZ,HG.o.bel⟩
theorem d5s (dv sv:Value) (l:P.Dic) (st:List Int) (w:World) (hu:EntR w dv l) (hs:IntR w sv st) (hm:Small l) (hE:Env w) :
 Cz 85 #[.agg #[dv],sv] w λe w'=>e=.returned (.bool (P.dic l&&P.a3n st))/\Bl w w':=by
 have hb0:Bl w (w.alloc (.cells #[dv] 26)):=bZ.alloc lZ _;refine zm41 ?_;intro HU HST HB0 HE;clear hb0;obtain⟨ad,cap,rfl,_,_⟩:=hu;obtain⟨sd,sc,rfl,_,_⟩:=hs;go_enter func85,ntmps85;go_wp2_with fail;refine (a1e _ l _ HU.o hm.texts HE.o).mono ?_;rintro e w1 ⟨rfl,hb⟩;have HB1:=bt HB0 hb;have HST1:=qh (HST.o.below hb);clear hb;obtain⟨q,hq⟩:∃q,P.dic l=q:=⟨_,rfl⟩;have HQ:=qh hq;rw [hq];clear hq
 cases q
 .go_wp2;go_ret;exact⟨a0a (by rw [HQ.o];rfl),HB1.o⟩
 .go_wp2_with fail
  refine (c5c _ st _ HST1.o).mono ?_;rintro e w2 ⟨rfl,hb⟩;have HB2:=bt HB1 hb;clear hb;obtain⟨q,hq⟩:∃q,P.a3n st=q:=⟨_,rfl⟩;have HQ2:=qh hq;rw [hq];clear hq;go_wp2;go_ret;exact⟨a0a (by rw [HQ.o,HQ2.o];rfl),HB2.o⟩
namespace P
theorem c3c {t:Bs} (h:∀b∈t,b≠35):Go.Lib.replaceAll t [35] [61]=t:=by
 have hc:Go.Lib.count t [35]=0:=by
  rw [Go.Lib.count_one];exact List.count_eq_zero.2 λhm=>h 35 hm rfl
 unfold Go.Lib.replaceAll Go.Lib.replace Go.Lib.replaceNum;rw [if_neg dZ,if_pos (.inl dZ),hc];rfl
theorem c5b {t:Bs} (h:∀b∈t,b≠35):Go.Lib.replaceAll (35::t) [35] [61]=61::t:=by
 have hc:Go.Lib.count (35::t) [35]=1:=by
  rw [Go.Lib.count_one,List.count_cons_self,List.count_eq_zero.2 λhm=>h 35 hm rfl]
 have hi:Go.Lib.index (35::t) [35]=((0:Nat):Int):=by
  unfold Go.Lib.index;rw [if_pos sZ];rfl
 unfold Go.Lib.replaceAll Go.Lib.replace Go.Lib.replaceNum;rw [if_neg dZ,if_pos (.inl dZ),hc,Go.Lib.replaceK_hit _ _ _ _ _ hi];rfl
theorem c7x (s:Int):Go.Lib.replaceAll (fmt s) [35] [61]=raw s:=by
 obtain⟨t,ht,h⟩:=c2y s;have hl:=λm=>b7p t m ht
 rcases h with h|h
 .have hf:fmt s=fmtL (midK s) t:=by unfold fmt;rw [h]
  unfold raw;rw [hf,b5t (hl _),c3c (hl _)]
 .have hf:fmt s=35::fmtL (midK s) t:=by
   unfold fmt;rw [h]
   conv=>lhs;unfold fmtL
   rfl
  unfold raw;rw [hf,List.map_cons,b5t (hl _),c5b (hl _)];rfl
end P
theorem c6j (m:Int) (w:World) (hE:Env w) :
 Cz 107 #[.string (S (P.fmt m)),.string (S [35]),.string (S [61])] w λe w'=>e=.returned (.string (S (P.raw m)))/\Bl w w':=by
 obtain⟨n,hm⟩:=hE.2
 have hl:=P.a8o m
 have hc:=Lib.countB_mul_le (S [35]) dZ (S (P.fmt m)).size (S (P.fmt m)) lZ
 have hc2:Lib.countB (S (P.fmt m)) (S [35])<=(P.fmt m).length:=by rw [S_size,S_size]at hc;simpa using hc
 refine (Tryz.strings_ReplaceAll (S (P.fmt m)) (S [35]) (S [61]) n w (by rw [S_size];omega) hm dZ (by rw [S_size,S_size];simp;omega)).mono ?_
 rintro e w' ⟨rfl,hb⟩
 rw [S_dataList,S_dataList,S_dataList,P.c7x]
 exact⟨rfl,hb⟩
theorem c3y (l:List (Int×Str)):(a0p l).length=l.length*2:=by
 induction l with
 |nil=>rfl
 |cons a l ih=>
  have e:a0p (a::l)=.int .i64 a.1::.string (S a.2)::a0p l:=rfl;rw [e,List.length_cons,List.length_cons,List.length_cons,ih];omega
theorem c2z {l:List (Int×Str)} {x:Value} (h:x∈a0p l):x.oneCell'=true:=by
 unfold a0p at h;rw [List.mem_flatMap]at h;obtain⟨a,_,h⟩:=h;simp only [List.mem_cons,List.not_mem_nil,or_false]at h
 rcases h with rfl|rfl<;>rfl
theorem b7r (l m:List (Int×Str)):a0p (l++m)=a0p l++a0p m:=by unfold a0p;rw [List.flatMap_append]
theorem b5a {l:List (Int×Str)} (h:a0v B v u l):c5m v 2 u l.length (a0p l):=by
 refine⟨c3y l,λx hx=>c2z hx,?_⟩
 rcases id h.2 with⟨hv,h0⟩|⟨g,cap,cur,hv,_⟩
 .exact .inl ⟨hv,h0⟩
 .have hob:u.ownBlock=some g:=by rw [hv];rfl
  exact .inr ⟨_,cap,hv,λj x hx=>World.ownsRow.cells h hob j x hx⟩
theorem b9v {w1 w2:World} {v v':Value} {l m:List (Int×Str)} (hown:a0v w.heap.size w1 v l) (hb:Bl w w1)
 (h:w2.ownsRow w.heap.size 177 2 v' (l.length+m.length) (a0p l++a0p m)) (hg:w1.grownBy w2 v.ownBlock) :
 a0v w.heap.size w2 v' (l++m)/\Bl w w2:=by
 refine⟨?_,hb.grown hg hb.size (λk hk=>(World.ownsRow.lt hown k hk).1)⟩
 unfold a0v;rw [b7r,List.length_append];exact h
theorem d8t (sv u:Value) (st:List Int) (l:List P.Pc) (w:World) (hs:IntR w sv st) (hu:PcR w u l) (hsl:P.a3n st=true) (hl:l.length<=60)
 (hp:∀p∈l,∃a k:Nat,a<st.length/\p.1=((a:Int),(k:Int))/\(p.2=[]\/(P.a0o p.2).2=true)) (hE:Env w) :
 Cz 86 #[sv,u] w (a9u (P.render (P.a1b st l)) w):=by
 obtain⟨i0,hi,hz0,hz1,hz2⟩:=info_parts b2j
 have hba:=(Below.refl w.heap.size w).alloc lZ (.cells #[] 177)
 have HST:=qh hs;have HU:=qh hu;have HSL:=qh hsl;have HP:=qh hp;have HE:=qh hE
 have HOW:Hq (a0v w.heap.size (w.alloc (.cells #[] 177)) (.slice (some ⟨w.heap.size,0,none⟩) 0 0) []):=⟨World.ownsRow_made _ _ _ lZ dZ (by rfl)⟩
 have HB0:=qh hba
 obtain⟨sd,sc,rfl,_,_⟩:=hs
 obtain⟨ad,cap,rfl,_,_⟩:=hu
 clear hba hsl hp hE
 go_enter func86,ntmps86
 go_wp2
 go_loopw [6,16] (λv i wr=>∃j:Nat,j<=l.length/\i=.int .i64 j/\a0v w.heap.size wr v (P.a1b st (l.take j))/\Bl w wr) (λ_ i _=>l.length-(intOf i).toNat)
 case atStart=>exact⟨0,Nat.zero_le _,rfl,HOW.o,HB0.o⟩
 case round=>
  clear HOW HB0;obtain⟨j,hj,rfl,hown,hb⟩:=hrel;have HOWN:=qh hown;have HB:=qh hb;obtain⟨va,vc,rfl⟩:=a5c hown;have hal:=P.a8i st (l.take j);rw [List.length_take,Nat.min_eq_left hj]at hal
  by_cases hlt:j<l.length
  .obtain⟨g,o,hga,hgl,c0,c1,c2⟩:=(HU.o.below hb).at j hlt;obtain⟨a,k,hast,hpk,htx⟩:=HP.o _ (List.getElem_mem hlt);have HSN:=qh (show P.a1b st (l.take (j+1))=P.a1b st (l.take j)++P.a3o st l[j] by rw [a0g l j hlt,P.b4q]);subst hga;generalize l[j]=p at *;obtain⟨⟨p0,p1⟩,tx⟩:=p;simp only [Prod.mk.injEq]at hpk;obtain⟨rfl,rfl⟩:=hpk;simp only at c0 c1 c2 htx;have HTX:=qh htx;have i1:(j:Int)<(l.length:Int):=by omega
   have hbz:=hb.size;have HEW:=qh (HE.o.below hb HE.o.size);obtain⟨at0,hat0⟩:∃x,P.a1b st (l.take j)=x:=⟨_,rfl⟩;rw [hat0]at HOWN HSN hal⊢;clear hb hown htx hat0
   cases tx with
   |nil=>
    obtain⟨m,hm,hms,hmd⟩:=P.a9z HSL.o hast;have HMS:=qh hms;have HPA:=qh (show P.a3o st (((a:Int),(k:Int)),[])=[(1,P.raw (m:Int))] by rw [P.b9q rfl rfl,hmd]);obtain⟨gs,os,hgs,hgsl,cs⟩:=(HST.o.below HB.o).at a hast;rw [hm]at cs;subst hgs;have i2:(a:Int)<(st.length:Int):=by omega
    clear hms hm hmd;go_wp2_with fail;refine (a3i m _ HMS.o).mono ?_;rintro e w1 ⟨rfl,hb1⟩;have hbx:Bl wr w1:=(bZ.alloc lZ _).trans (hb1.mono sZ);have HE1:=qh (HEW.o.below hbx HEW.o.size);have HX1:=qh hbx;clear hb1 hbx c0 c1 c2 cs;go_wp2_with fail;refine (c6j (m:Int) _ HE1.o).mono ?_;rintro e w2 ⟨rfl,hb2⟩;have HX2:=bt HX1 hb2;have HOW2:Hq ((w2.alloc (.cells #[.int .i64 1,.string (S (P.raw (m:Int)))] 177)).ownsRow w.heap.size 177 2 (.slice va at0.length vc) at0.length (a0p at0)):=⟨(a0i HOWN.o HX2.o lZ).alloc _⟩;have hzw2:w.heap.size<=w2.heap.size:=Nat.le_trans hbz HX2.o.size;have hal2:at0.length<=600:=by omega
    clear hb2;generalize P.raw (m:Int)=rw' at *;go_wp2_with (at_builtin;refine wpList_append_own _ rfl _ _ 171 rfl w.heap.size 177 i0 (.agg #[.int .i64 0,.string ⟨#[]⟩]) 2 24 underlying171 hi hz0 hz1 hz2 rfl dZ _ at0.length (a0p at0) rfl HOW2.o ⟨w2.heap.size,0,none⟩ 1 1 [.int .i64 1,.string (S rw')] rfl rfl ?_ ?_ ?_ ?_ ?_ ?_);all_goals first|exact⟨rfl,rfl⟩|(intro z hz;simp only [List.mem_cons,List.not_mem_nil,or_false]at hz;rcases hz with rfl|rfl<;>rfl)|(unfold maxLen;omega)|omega|(simp;omega)|(intro i z hz;rcases i with _|_|i;(injection hz with hz;subst hz;rw [add0];go_simp);(injection hz with hz;subst hz;go_simp);cases hz)|skip
    intro v' w3 hown' hgrow _;refine zm81 ?_;intro R;exact zq121
   |cons x tl=>
    have hok:(P.a0o (x::tl)).2=true:=HTX.o.resolve_left sZ;have hl60:=P.b1q hok;have HOK:=qh hok;have HPA:Hq (P.a3o st (((a:Int),(k:Int)),x::tl)=(P.a0o (x::tl)).1):=⟨P.b1c sZ⟩;have hne:((x::tl:Str) != [])=true:=rfl;have hne2:((x::tl:Str)==[])=false:=rfl;have hne3:¬(x::tl:Str)=[]:=by simp
    generalize x::tl=tx at *;clear hok
    go_wp2_with fail
    refine (a4v tx _ oZ (HEW.o.alloc _)).mono ?_;rintro e w1 ⟨pv,rfl,hpo,hb1⟩;have hpo':=hpo HOK.o;rw [HOK.o];have hbx:Bl wr w1:=(bZ.alloc lZ _).trans (hb1.mono sZ);have HX1:=qh hbx;have HSRC:=qh (b5a hpo');have hml:=P.b3x tx;have HOW1:=qh (a0i HOWN.o hbx lZ);obtain⟨ma,mc,rfl⟩:=a5c hpo';have hz1':w.heap.size<=w1.heap.size:=Nat.le_trans hbz hbx.size;have hal2:at0.length<=600:=by omega
    clear hb1 hbx hpo hpo' c0 c1 c2;generalize (P.a0o tx).1=ma1 at *
    go_wp2_with (at_builtin;refine a0w rfl _ _ 171 rfl w.heap.size 177 i0 (.agg #[.int .i64 0,.string ⟨#[]⟩]) 2 24 underlying171 hi hz0 hz1 hz2 rfl dZ _ at0.length (a0p at0) rfl HOW1.o _ ma1.length (a0p ma1) rfl HSRC.o ?_ ?_ ?_ ?_)
    .unfold maxLen;omega
    .omega
    .exact hz1'
    intro v' w3 hown' hgrow _;have R:=qh (b9v HOW1.o (HB.o.trans (HX1.o.mono hbz)) hown' hgrow);exact zq121
  .have hjl:j=l.length:=by omega
   have hsum:(P.a1b st (l.take j)).length<=600:=by omega
   have HTE:Hq (l.take j=l):=⟨List.take_of_length_le oZ⟩;rw [HTE.o]at HOWN hsum;rw [HTE.o];have i1:¬(j:Int)<(l.length:Int):=by omega
   have HAT:Hq (∀x∈P.a1b st l,x.2.length<=2^29):=⟨λx hx=>P.b4j HP.o x hx⟩;clear hown hb hal
   go_wp2_with fail
   refine (c6z _ _ _ (b2d HOWN.o) hsum HAT.o).mono ?_;rintro e w2 ⟨rfl,hb2⟩;have HB2:=bt HB hb2;clear hb2;go_wp2;go_ret2;exact⟨rfl,HB2.o⟩
theorem a5f (dv sv:Value) (l:P.Dic) (st:List Int) (w:World) (hu:EntR w dv l) (hs:IntR w sv st) (hm:Small l) (hE:Env w) :
 Cz 26 #[.agg #[dv],sv] w (a9u (P.scr l st) w):=by
 have hb0:Bl w (w.alloc (.cells #[dv] 26)):=bZ.alloc lZ _;refine zm41 ?_;intro HU HST HB0 HE;have HX:=qh (DBx.new dv 26 w);clear hb0;obtain⟨ad,cap,rfl,_,_⟩:=hu;obtain⟨sd,sc,rfl,_,_⟩:=hs;go_enter func26,ntmps26;go_wp2_with fail;refine (d5s _ _ l st _ HU.o HST.o hm HE.o).mono ?_;rintro e w1 ⟨rfl,hb⟩;have HB1:=bt HB0 hb;have HST1:=qh (HST.o.below hb);have HU1:=qh (HU.o.below hb);have HX1:=qh (HX.o.below hb);have HE1:=qh (HE.o.below hb HE.o.size);clear hb;obtain⟨q,hq⟩:∃q,(P.dic l&&P.a3n st)=q:=⟨_,rfl⟩;have HQ:=qh hq;rw [hq];clear hq
 cases q
 .go_wp2;go_ret2;have h:P.scr l st=([],false):=by unfold P.scr;rw [HQ.o];rfl
  exact⟨by rw [h];rfl,HB1.o⟩
 .have HD:=qh (show P.dic l=true/\P.a3n st=true by have h:=HQ.o;simpa only [Bool.and_eq_true] using h);have hl60:=P.a4w HD.o.2;obtain⟨k0,_⟩:=HX1.o
  go_wp2_with fail
  refine (d5c _ _ l st _ HU1.o HST1.o hl60).mono ?_;rintro e w2 ⟨u,rfl,hp,hb⟩;have HB2:=bt HB1 hb;have HP:=qh hp;have HST2:=qh (HST1.o.below hb);have HE2:=qh (HE1.o.below hb HE1.o.size);obtain⟨ua,uc,rfl,_,_⟩:=hp;clear hb
  go_wp2_with fail
  refine (d8t _ _ st (P.segA l st) _ HST2.o HP.o HD.o.2 (Nat.le_trans (P.b1t l st) hl60) (λp hp=>P.b8d HD.o.1 hp) HE2.o).mono ?_;rintro e w3 ⟨rfl,hb3⟩;have HB3:=bt HB2 hb3;clear hb3;have HS:=qh (show P.scr l st=P.render (P.a1b st (P.segA l st)) by unfold P.scr;rw [HQ.o];rfl);go_wp2;go_ret2;exact⟨by rw [HS.o];rfl,HB3.o⟩
def e1x (x:P.Edit) (w:World) (e:Ending) (w':World):Prop:=e=.returned (.agg #[.int .i64 x.1,.string (S x.2)])/\Bl w w'
theorem a9b (a b:Str) (w:World) (ha:a.length<=2^30) (hb:b.length<=2^30) :
 Cz 208 #[.string (S a),.string (S b)] w (e1x (P.least a b) w):=by
 go_enter func208,ntmps208
 go_wp2
 go_loopw [5] (λi wr=>∃j:Nat,j<=a.length/\j<=b.length/\i=.int .i64 j/\a.take j=b.take j/\∃n,wr=(w.alloc (.cells #[.int .i64 0,.string (S [])] 55)).drewN n) (λi _=>a.length-(intOf i).toNat)
 case atStart=>exact⟨0,Nat.zero_le _,Nat.zero_le _,rfl,rfl,0,rfl⟩
 case round=>
  obtain⟨j,hj,hk,rfl,hpre,n,rfl⟩:=hrel;have HPRE:=qh hpre;have HSB:=qh (show (a.length-j:Nat)=(a.length:Int)-(j:Int) by omega);clear hpre
  by_cases h1:j<a.length
  .have i1:(j:Int)<(a.length:Int):=by omega
   by_cases h2:j<b.length
   .have i2:(j:Int)<(b.length:Int):=by omega
    by_cases h3:a[j]=b[j]
    .exact zq87
    .have f3:((((a[j]'h1).toNat:Nat):Int)==(((b[j]'h2).toNat:Nat):Int))=false:=by
      rw [beq_eq_false_iff_ne];intro h;exact h3 (UInt8.toNat_inj.1 oZ)
     have HL:=qh (P.b5z j a b HPRE.o oZ oZ (.inr (.inr ⟨h1,h2,h3⟩)));exact zq40
   .have i2:¬(j:Int)<(b.length:Int):=by omega
    have HL:=qh (P.b5z j a b HPRE.o oZ oZ (.inr (.inl oZ)));exact zq40
  .have i1:¬(j:Int)<(a.length:Int):=by omega
   have HL:=qh (P.b5z j a b HPRE.o oZ oZ (.inl oZ));exact zq40
end Go.Proofs.YtggfdnopminemaaGreatDoor

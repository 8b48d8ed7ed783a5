/- Walks: a dictionary that the cursor draws. -/
import Derived.Test.YtggfdnopminemaaGreatDoorZt
import Derived.Test.YtggfdnopminemaaGreatDoorPut3
namespace Go.Proofs.YtggfdnopminemaaGreatDoor
open Go Go.RowKit
set_option maxHeartbeats 4000000
set_option maxRecDepth 100000
def DBx (b:Nat) (u:Value) (v:World):Prop:=v.cell? ⟨b,0,none⟩=some u∧v.frozen? ⟨b,0,none⟩=false∧b<v.heap.size
theorem DBx.a0c {b:Nat} {u:Value} {v v':World} {X:Blk} (h:DBx b u v) (hc:Chg X v v') (hX:¬X b):DBx b u v':=
 ⟨(hc.cell (p:=⟨b,0,none⟩) h.2.2 hX).trans h.1,(hc.frozen (p:=⟨b,0,none⟩) h.2.2 hX).trans h.2.1,Nat.lt_of_lt_of_le h.2.2 hc.size⟩
theorem DBx.below {b:Nat} {u:Value} {v v':World} (h:DBx b u v) (hb:Below v.heap.size v v'):DBx b u v':=h.a0c (Below.chg hb fun _=>False) fun h=>h
theorem DBx.new (u:Value) (t:TypeId) (v:World):DBx v.heap.size u (v.alloc (.cells #[u] t)):=by
 refine⟨?_,?_,?_⟩<;>go_simp
theorem DBx.put {b:Nat} {u u':Value} {v:World} (h:DBx b u v):DBx b u' (v.setCell ⟨b,0,none⟩ u'):=
 ⟨World.cell?_setCell_same _ _ _ h.1,by simpa using h.2.1,by simpa [World.setCell] using h.2.2⟩
theorem IntR.cut {v:World} {g o cap:Nat} {l:List Int} (h:IntR v (.slice (some ⟨g,o,none⟩) l.length cap) l) {a k:Nat} (hk:a+k≤l.length) (c:Nat) (hc:k≤c):IntR v (.slice (some ⟨g,o+a,none⟩) k c) ((l.drop a).take k):=by
 obtain⟨ad',cap',he,h1,hn,h3⟩:=h;injection he with e1 e2 e3;subst e1 e3;have hlk:((l.drop a).take k).length=k:=by rw [List.length_take,List.length_drop];omega
 refine⟨_,c,by rw [hlk],by omega,(fun h=>by cases h),?_⟩
 rcases h3 with h3|⟨g',o',h4,h5,h6⟩
 ·left;rw [h3];simp
 ·injection h4 with h4;injection h4 with h7 h8;subst h7 h8;refine .inr ⟨_,_,rfl,h5,fun j hj=>?_⟩;have hj':a+j<l.length:=by omega
  rw [List.getElem_take,List.getElem_drop,Nat.add_assoc];exact h6 (a+j) hj'
def d7t (p:P.Pc) (w:World) (e:Ending) (w':World):Prop:=e=.returned (.agg #[.int .i64 p.1.1,.int .i64 p.1.2,.string (S p.2)])∧Below w.heap.size w w'
def PcBx (b:Nat) (v:World):Prop:=v.cell? ⟨b,0,none⟩=some (.int .i64 0)∧v.cell? ⟨b,1,none⟩=some (.int .i64 0)∧v.cell? ⟨b,2,none⟩=some (.string (S []))∧(v.frozen? ⟨b,0,none⟩=false∧v.frozen? ⟨b,1,none⟩=false∧v.frozen? ⟨b,2,none⟩=false)∧b<v.heap.size
theorem PcBx.below {b:Nat} {v v':World} (h:PcBx b v) (hb:Below v.heap.size v v'):PcBx b v':=by
 obtain⟨h1,h2,h3,⟨h4,h5,h6⟩,h7⟩:=h;have hc:Chg (fun _=>False) v v':=Below.chg hb _;exact⟨(hc.cell (p:=⟨b,0,none⟩) h7 id).trans h1,(hc.cell (p:=⟨b,1,none⟩) h7 id).trans h2,(hc.cell (p:=⟨b,2,none⟩) h7 id).trans h3,⟨(hc.frozen (p:=⟨b,0,none⟩) h7 id).trans h4,(hc.frozen (p:=⟨b,1,none⟩) h7 id).trans h5,(hc.frozen (p:=⟨b,2,none⟩) h7 id).trans h6⟩,Nat.lt_of_lt_of_le h7 hb.size⟩
theorem e0d (dv sv:Value) (l:P.Dic) (st:List Int) (a:Nat) (w:World) (hu:EntR w dv l) (hs:IntR w sv st) (ha:a<st.length) :
 Calls Tryz.prog 158 #[.agg #[dv],sv,.int .i64 a] w (d7t (P.a2x l st a) w):=by
 have hb0:Below w.heap.size w ((w.alloc (.cells #[dv] 26)).alloc (.cells #[.int .i64 0,.int .i64 0,.string (S [])] 173)):=((Below.refl w.heap.size w).alloc lZ _).alloc sZ _
 have HB0:=qh hb0;have HU:=qh hu;have HST:=qh hs
 have HX:=qh ((Box1.new dv 26 w).below (bZ.alloc lZ (.cells #[.int .i64 0,.int .i64 0,.string (S [])] 173)))
 have HR:=qh (show PcBx (w.heap.size+1) ((w.alloc (.cells #[dv] 26)).alloc (.cells #[.int .i64 0,.int .i64 0,.string (S [])] 173)) by refine⟨?_,?_,?_,⟨?_,?_,?_⟩,?_⟩<;>go_simp)
 clear hb0
 obtain⟨ad,cap,rfl,_,_⟩:=hu
 obtain⟨sd,sc,rfl,hsl,_⟩:=hs
 obtain⟨g,o,hga,_⟩:=HST.o.at 0 oZ
 subst hga
 have i0:(a:Int)<(st.length:Int):=by omega
 go_enter Tryz.func158,Tryz.ntmps158
 go_wp2_with fail
 go_loopw [7] (fun i wr=>∃n:Nat,n≤6∧a+n≤st.length∧i=.int .i64 n∧P.a2x l st a=P.a4k l st a n∧Box1 w.heap.size (.slice ad l.length cap) wr∧PcBx (w.heap.size+1) wr∧EntR wr (.slice ad l.length cap) l∧Below w.heap.size w wr) (fun i _=>(intOf i).toNat)
 case atStart=>exact⟨min 6 (st.length-a),Nat.min_le_left _ _,by omega,by congr 1;omega,rfl,HX.o,HR.o,HU.o.below HB0.o,HB0.o⟩
 case round=>
  clear HX HR HB0;obtain⟨n,hn6,hns,rfl,hbs,hbx,hpb,hen,hb⟩:=hrel;have HBS:=qh hbs;have HBX:=qh hbx;have HPB:=qh hpb;have HEN:=qh hen;have HB:=qh hb;clear hbs hen;obtain⟨k0,k1⟩:=hbx
  by_cases hn1:1≤n
  ·have i1:(1:Int)≤(n:Int):=by omega
   have i2:(a:Int)+(n:Int)≤(sc:Int):=by omega
   have i3:¬sc=a:=by omega
   have i4:IntKind.i64.wrap ((a:Int)+(n:Int))=(a:Int)+(n:Int):=by rw [IntKind.wrap_i64];omega
   have i5:(0:Int)≤(a:Int)+(n:Int):=by omega
   have i6:a≤((a:Int)+(n:Int)).toNat:=by omega
   have i7:((a:Int)+(n:Int)).toNat-a=n:=by omega
   have hbd:=(Below.refl wr.heap.size wr).drew;have HBD:=qh (hb.trans (hbd.mono hb.size));have HXD:=qh (HBX.o.below hbd);have HPD:=qh (HPB.o.below hbd);have HED:=qh (HEN.o.below hbd);have HFR:=qh (IntR.cut HST.o hns (sc-a) oZ);clear hb hbd hpb
   go_upto_region 4 with fail
   refine wp_region_held_drew (S:=Box1 w.heap.size (.slice ad l.length cap)) kZ HXD.o (fun hS0=>?_);generalize wr.drew=v0 at *;refine tk4 0 hS0 ?_;refine tk4 1 hS0 ?_;refine tk4 2 hS0 ?_;refine tk4 3 hS0 ?_;refine tk4 4 hS0 ?_;refine tk4 5 hS0 ?_;refine tk4 6 hS0 ?_;refine trd 7 fun K hK=>?_;go_simp;refine (c1o _ _ l ((st.drop a).take n) _ HED.o (HFR.o.below HBD.o)).mono ?_;rintro e v1 ⟨rfl,hb⟩;have HB4:=bt HBD hb;have HX4:=qh (HXD.o.below hb);have HP4:=qh (HPD.o.below hb);have HE4:=qh (HED.o.below hb);refine hK.out _ _ (hS0.below hb) (fun hS1=>?_);clear hK K hb hS0
   try simp only [qA,qB,qC,Act.put,qD,qE,qF]
   have HT:=qh (show P.hasE ((st.drop a).take n) l=true→P.a2x l st a=(((a:Int),(n:Int)),P.a3d ((st.drop a).take n) l) from fun h=>by
    obtain⟨m,rfl⟩:∃m,n=m+1:=⟨n-1,by omega⟩;rw [HBS.o];unfold P.a4k;rw [if_pos h])
   have HN:=qh (show P.hasE ((st.drop a).take n) l=false→P.a2x l st a=P.a4k l st a (n-1) from fun h=>by
    obtain⟨m,rfl⟩:∃m,n=m+1:=⟨n-1,by omega⟩;rw [HBS.o];(conv=>lhs;unfold P.a4k);rw [if_neg (by rw [h];decide)];rfl)
   generalize P.a3d ((st.drop a).take n) l=tx at *;generalize P.hasE ((st.drop a).take n) l=q at *;refine tk4 8 hS1 ?_;refine tk4 9 hS1 ?_;refine tk4 10 hS1 ?_;refine tk4 11 hS1 ?_;refine tk4 12 hS1 ?_;refine wpAnyH_done kZ ?_ _;clear hS1
   cases q
   ·have HNN:=qh (HN.o rfl);clear HT HN;go_wp2
    go_roundw
    case rel=>exact⟨n-1,by omega,by omega,by congr 1;omega,HNN.o,HX4.o,HP4.o,HE4.o,HB4.o⟩
    case measure=>simp [intOf];omega
   ·have HTT:=qh (HT.o rfl);clear HT HN;obtain⟨p0,p1,p2,⟨p3,p4,p5⟩,p6⟩:=HP4.o;go_wp2;refine bodyPost_ret (v:=.agg #[.int .i64 a,.int .i64 n,.string (S tx)]) (by simp [results,Tryz.results158,go_sem,p0,p1,p2]) rfl ⟨by rw [HTT.o],?_⟩;exact ((HB4.o.setCell sZ _).setCell sZ _).setCell sZ _
  ·have i1:¬(1:Int)≤(n:Int):=by omega
   have HTT:=qh (show P.a2x l st a=(((a:Int),1),[]) by rw [HBS.o,show n=0 by omega];rfl);clear hb;obtain⟨p0,p1,p2,⟨p3,p4,p5⟩,p6⟩:=HPB.o;go_wp2;refine bodyPost_ret (v:=.agg #[.int .i64 a,.int .i64 1,.string (S [])]) (by simp [results,Tryz.results158,go_sem,p0,p1,p2]) rfl ⟨by rw [HTT.o],?_⟩;exact ((HB.o.setCell sZ _).setCell sZ _).setCell sZ _
def a4j (l:List P.Pc):List Value:=l.flatMap fun p=>[.int .i64 p.1.1,.int .i64 p.1.2,.string (S p.2)]
theorem b3r (l:List P.Pc) (p:P.Pc):a4j (l++[p])=a4j l++[.int .i64 p.1.1,.int .i64 p.1.2,.string (S p.2)]:=by unfold a4j;rw [List.flatMap_append];rfl
theorem b7d:∀(l:List P.Pc) (j:Nat) (h:j<l.length),(a4j l)[j*3]?=some (.int .i64 (l[j]'h).1.1)∧(a4j l)[j*3+1]?=some (.int .i64 (l[j]'h).1.2)∧(a4j l)[j*3+2]?=some (.string (S (l[j]'h).2))
 |a::l,0,_=>⟨rfl,rfl,rfl⟩
 |a::l,j+1,h=>by
  have ih:=b7d l j (by simpa using h)
  have e:∀i,(a4j (a::l))[(j+1)*3+i]?=(a4j l)[j*3+i]?:=fun i=>by
   show ([Value.int .i64 a.1.1,.int .i64 a.1.2,.string (S a.2)]++a4j l)[(j+1)*3+i]?=_
   rw [List.getElem?_append_right (by simp;omega)]
   congr 1
   simp;omega
  refine⟨?_,?_,?_⟩
  ·have:=e 0;rw [Nat.add_zero,Nat.add_zero]at this;rw [this];exact ih.1
  ·rw [e 1];exact ih.2.1
  ·rw [e 2];exact ih.2.2
def PcR (v:World) (u:Value) (l:List P.Pc):Prop:=
 ∃(ad:Option Addr) (cap:Nat),u=.slice ad l.length cap∧l.length≤2^30∧(l=[]∨∃g o,ad=some ⟨g,o,none⟩∧g<v.heap.size∧∀(j:Nat) (h:j<l.length),v.cell? ⟨g,o+j*3,none⟩=some (.int .i64 (l[j]'h).1.1)∧v.cell? ⟨g,o+j*3+1,none⟩=some (.int .i64 (l[j]'h).1.2)∧v.cell? ⟨g,o+j*3+2,none⟩=some (.string (S (l[j]'h).2)))
theorem PcR.below {v v':World} {u:Value} {l:List P.Pc} (h:PcR v u l) (hb:Below v.heap.size v v'):PcR v' u l:=by
 obtain⟨ad,cap,h1,h2,h3⟩:=h;refine⟨ad,cap,h1,h2,h3.imp id ?_⟩;rintro⟨g,o,h4,h5,h6⟩;refine⟨g,o,h4,Nat.lt_of_lt_of_le h5 hb.size,fun j hj=>?_⟩;obtain⟨a,b,c⟩:=h6 j hj;exact⟨(hb.cell (p:=⟨g,_,none⟩) h5).trans a,(hb.cell (p:=⟨g,_,none⟩) h5).trans b,(hb.cell (p:=⟨g,_,none⟩) h5).trans c⟩
theorem PcR.at {v:World} {ad:Option Addr} {n cap:Nat} {l:List P.Pc} (h:PcR v (.slice ad n cap) l) (j:Nat) (hj:j<l.length):∃g o,ad=some ⟨g,o,none⟩∧g<v.heap.size∧v.cell? ⟨g,o+j*3,none⟩=some (.int .i64 (l[j]'hj).1.1)∧v.cell? ⟨g,o+j*3+1,none⟩=some (.int .i64 (l[j]'hj).1.2)∧v.cell? ⟨g,o+j*3+2,none⟩=some (.string (S (l[j]'hj).2)):=by
 obtain⟨ad',cap',he,_,h3⟩:=h;exact zq40
def OwnP (B:Nat) (v:World) (u:Value) (l:List P.Pc):Prop:=v.ownsRow B 173 3 u l.length (a4j l)
theorem OwnP.form {B:Nat} {v:World} {u:Value} {l:List P.Pc} (h:OwnP B v u l):∃ad cap,u=.slice ad l.length cap:=by
 exact zq58
theorem OwnP.read {B:Nat} {v:World} {u:Value} {l:List P.Pc} (h:OwnP B v u l) (hl:l.length≤2^30):PcR v u l:=by
 unfold OwnP at h
 rcases id h.2 with⟨rfl,h0⟩|⟨g,cap,cur,rfl,hg,_⟩
 ·have e:l=[]:=List.eq_nil_of_length_eq_zero h0;subst e;exact⟨none,0,rfl,by simp,.inl rfl⟩
 ·refine⟨some ⟨g,0,none⟩,cap,rfl,hl,.inr ⟨g,0,rfl,(World.ownsRow.lt h g rfl).2,fun j hj=>?_⟩⟩;obtain⟨a,b,c⟩:=b7d l j hj;have c1:=World.ownsRow.cellAt h (j*3) oZ;have c2:=World.ownsRow.cellAt h (j*3+1) oZ;have c3:=World.ownsRow.cellAt h (j*3+2) oZ;exact⟨by rw [Nat.zero_add];exact c1.trans a,by rw [Nat.zero_add];exact c2.trans b,by rw [Nat.zero_add];exact c3.trans c⟩
theorem c3p:(Tryz.prog.info? 173).map (fun i=>(i.zero,i.size,i.bytes))=some (some (.agg #[.int .i64 0,.int .i64 0,.string ⟨#[]⟩]),3,32):=by kernel_rfl
structure SgR (w:World) (dv:Value) (l:P.Dic) (st:List Int) (s:Value) (row:List P.Pc) (a f:Nat) (v:World):Prop where
 own:OwnP (w.heap.size+1) v s row
 bx:DBx w.heap.size dv v
 bel:Below w.heap.size w v
 fuel:st.length-a≤f
 seg:P.segA l st=row++P.segs l st f a
 la:a≤st.length
 lr:row.length≤a
theorem SgR.app {w v v1 v':World} {dv s u':Value} {l:P.Dic} {st:List Int} {row:List P.Pc} {a f a' f':Nat} {p:P.Pc} (h:SgR w dv l st s row a f v) (hb:Below v.heap.size v v1)
 (hown:v'.ownsRow (w.heap.size+1) 173 3 u' (row.length+1) (a4j row++[.int .i64 p.1.1,.int .i64 p.1.2,.string (S p.2)])) (hgr:v1.grownBy v' s.ownBlock)
 (h1:st.length-a'≤f') (h2:P.segs l st f a=p::P.segs l st f' a') (h3:a'≤st.length) (h4:a<a'):SgR w dv l st u' (row++[p]) a' f' v':=by
 have hz:=h.bel.size
 have hz1:=hb.size
 have hlt:∀k,s.ownBlock=some k→w.heap.size+1≤k:=fun k hk=>(World.ownsRow.lt h.own k hk).1
 have hc:Chg (fun b=>s.ownBlock=some b) v1 v':=Chg.grown hgr
 refine⟨?_,(h.bx.below hb).a0c hc (fun e=>by have:=hlt _ e;omega),(h.bel.trans (hb.mono hz)).trans (hc.below oZ (fun b e=>by have:=hlt b e;omega)),h1,?_,h3,?_⟩
 ·unfold OwnP;rw [b3r,List.length_append];exact hown
 ·rw [h.seg,h2,List.append_assoc];rfl
 ·rw [List.length_append];have:=h.lr;simp;omega
def SgPost (l:List P.Pc) (w:World) (e:Ending) (w':World):Prop:=∃u,e=.returned u∧PcR w' u l∧Below w.heap.size w w'
theorem d4a (dv sv:Value) (l:P.Dic) (st:List Int) (w:World) (hu:EntR w dv l) (hs:IntR w sv st) (hl60:st.length≤60) :
 Calls Tryz.prog 87 #[.agg #[dv],sv] w (SgPost (P.segA l st) w):=by
 obtain⟨i0,hi,hz0,hz1,hz2⟩:=info_parts c3p
 have hb0:Below w.heap.size w ((w.alloc (.cells #[dv] 26)).alloc (.cells #[] 173)):=((Below.refl w.heap.size w).alloc lZ _).alloc sZ _
 have HST:=qh hs;have HU:=qh hu
 have HG:=qh (show SgR w dv l st (.slice (some ⟨w.heap.size+1,0,none⟩) 0 0) [] 0 st.length ((w.alloc (.cells #[dv] 26)).alloc (.cells #[] 173)) from
  ⟨by have h:=World.ownsRow_lit (base:=w.heap.size+1) (e:=173) (size:=3) (w.alloc (.cells #[dv] 26)) #[] 0 sZ (Nat.zero_le _) sZ;simp at h;exact h,
   (DBx.new dv 26 w).below (bZ.alloc lZ _),hb0,by omega,rfl,by omega,by simp⟩)
 clear hb0
 obtain⟨ad,cap,rfl,_,_⟩:=hu
 obtain⟨sd,sc,rfl,hsl,_⟩:=hs
 go_enter Tryz.func87,Tryz.ntmps87
 go_wp2_with fail
 go_loopw [5,6] (fun s i wr=>∃(row:List P.Pc) (a f:Nat),i=.int .i64 a∧SgR w (.slice ad l.length cap) l st s row a f wr) (fun _ i _=>st.length-(intOf i).toNat)
 case atStart=>exact⟨[],0,st.length,rfl,HG.o⟩
 case round=>
  clear HG;obtain⟨row,a,f,rfl,hg⟩:=hrel;have HG:=qh hg;obtain⟨ua,uc,rfl⟩:=hg.own.form
  by_cases hlt:a<st.length
  ·have i1:(a:Int)<(st.length:Int):=by omega
   obtain⟨k,hk,hk1,hk2⟩:=P.b7c (d:=l) hlt;have HK:=qh (P.c1c hlt hg.fuel hk hk1);have HKE:=qh hk;have hra:=hg.lr;obtain⟨k0,_⟩:=hg.bx;clear hg hk
   go_wp2_with fail
   refine (e0d _ _ l st a _ (HU.o.below HG.o.bel) (HST.o.below HG.o.bel) hlt).mono ?_;rintro e w1 ⟨rfl,hb⟩;rw [HKE.o];obtain⟨tx,htx⟩:∃tx,(P.a2x l st a).2=tx:=⟨_,rfl⟩;rw [htx];have HPE:=qh (show P.a2x l st a=(((a:Int),(k:Int)),tx) from Prod.ext HKE.o htx);clear htx k0;have hbx:Below w1.heap.size w1 ((w1.alloc (.cells #[.int .i64 a,.int .i64 k,.string (S tx)] 173)).alloc (.cells #[.int .i64 a,.int .i64 k,.string (S tx)] 173)):=(bZ.alloc lZ _).alloc sZ _;have HB1:=qh (hb.trans (hbx.mono hb.size));have HZ:=qh (show w.heap.size+1≤w1.heap.size by have h1:=hb.size;have h2:=HG.o.bx.2.2;omega);have HOW:=qh (show OwnP (w.heap.size+1) ((w1.alloc (.cells #[.int .i64 a,.int .i64 k,.string (S tx)] 173)).alloc (.cells #[.int .i64 a,.int .i64 k,.string (S tx)] 173)) (.slice ua row.length uc) row from a0h HG.o.own (Below.chg HB1.o (fun _=>False)) (fun _ _ h=>h));have HLT:=qh (show ∀j,(Value.slice ua row.length uc).ownBlock=some j→j<w1.heap.size from fun j hj=>Nat.lt_of_lt_of_le (World.ownsRow.lt HG.o.own j hj).2 hb.size);clear hb hbx
   go_wp2_with (at_builtin;refine wpList_append_own _ rfl _ _ 115 rfl (w.heap.size+1) 173 i0 (.agg #[.int .i64 0,.int .i64 0,.string ⟨#[]⟩]) 3 32 Tryz.underlying115 hi hz0 hz1 hz2 rfl dZ (.slice ua row.length uc) row.length (a4j row) rfl HOW.o ⟨w1.heap.size+1,0,none⟩ 1 1 [.int .i64 a,.int .i64 k,.string (S tx)] rfl rfl ?_ ?_ ?_ ?_ ?_ ?_)
   all_goals first|exact⟨rfl,rfl⟩|(intro z hz;simp only [List.mem_cons,List.not_mem_nil,or_false]at hz;rcases hz with rfl|rfl|rfl<;>rfl)|(unfold maxLen;omega)|omega|(have h1:=HZ.o;simp;omega)|(intro i z hz;rcases i with _|_|_|i;(injection hz with hz;subst hz;rw [add0];go_simp);(injection hz with hz;subst hz;go_simp);(injection hz with hz;subst hz;go_simp);cases hz)|skip
   intro u4 w4 hown hgr _;obtain⟨f',hf',hse⟩:=HK.o;have HG4:=qh (HG.o.app (p:=(((a:Int),(k:Int)),tx)) (a':=a+k) (f':=f') HB1.o hown hgr hf' (by rw [hse,HPE.o]) hk2 oZ)
   have c1:w4.cell? ⟨w1.heap.size,1,none⟩=some (.int .i64 k):=by
    rw [(Chg.grown hgr).cell (p:=⟨w1.heap.size,1,none⟩) (by simp;omega) (fun e=>absurd (HLT.o _ e) (Nat.lt_irrefl _))];go_simp
   obtain⟨ub,uc4,rfl⟩:=HG4.o.own.form;exact zq145
  ·have HE:=qh (show P.segA l st=row by rw [hg.seg,P.c6f oZ,List.append_nil]);have hra:=hg.lr;have hla:=hg.la;clear hg;go_wp2;go_ret;exact⟨_,rfl,by rw [HE.o];exact HG.o.own.read oZ,HG.o.bel⟩
theorem d4m (dv sv:Value) (l:P.Dic) (st:List Int) (w:World) (hu:EntR w dv l) (hs:IntR w sv st) (hm:Small l) (hE:Env w) :
 Calls Tryz.prog 85 #[.agg #[dv],sv] w fun e w'=>e=.returned (.bool (P.dic l&&P.a3a st))∧Below w.heap.size w w':=by
 have hb0:Below w.heap.size w (w.alloc (.cells #[dv] 26)):=bZ.alloc lZ _
 have HU:=qh (hu.below hb0);have HST:=qh (hs.below hb0);have HB0:=qh hb0;have HE:=qh (hE.below hb0 hE.size)
 clear hb0
 obtain⟨ad,cap,rfl,_,_⟩:=hu
 obtain⟨sd,sc,rfl,_,_⟩:=hs
 go_enter Tryz.func85,Tryz.ntmps85
 go_wp2_with fail
 refine (a1k _ l _ HU.o hm.texts HE.o).mono ?_
 rintro e w1 ⟨rfl,hb⟩
 have HB1:=bt HB0 hb;have HST1:=qh (HST.o.below hb)
 clear hb
 obtain⟨q,hq⟩:∃q,P.dic l=q:=⟨_,rfl⟩
 have HQ:=qh hq
 rw [hq]
 clear hq
 cases q
 ·go_wp2;go_ret;exact⟨a0a (by rw [HQ.o];rfl),HB1.o⟩
 ·go_wp2_with fail
  refine (c0f _ st _ HST1.o).mono ?_;rintro e w2 ⟨rfl,hb⟩;have HB2:=bt HB1 hb;clear hb;obtain⟨q,hq⟩:∃q,P.a3a st=q:=⟨_,rfl⟩;have HQ2:=qh hq;rw [hq];clear hq;go_wp2;go_ret;exact⟨a0a (by rw [HQ.o,HQ2.o];rfl),HB2.o⟩
end Go.Proofs.YtggfdnopminemaaGreatDoor

/- Walks: a dictionary that the cursor draws. -/
import Derived.Test.YtggfdnopminemaaGreatDoorZt
import Derived.Test.YtggfdnopminemaaGreatDoorPut3
namespace Go.Proofs.YtggfdnopminemaaGreatDoor
open Go Go.RowKit
set_option maxHeartbeats 4000000
set_option maxRecDepth 100000
def DBx (b:Nat) (u:Value) (v:World):Prop:=v.cell? ⟨b,0,none⟩=some u∧v.frozen? ⟨b,0,none⟩=false∧b<v.heap.size
theorem DBx.a0e {b:Nat} {u:Value} {v v':World} {X:Blk} (h:DBx b u v) (hc:Chg X v v') (hX:¬X b):DBx b u v':=
 ⟨(hc.cell (p:=⟨b,0,none⟩) h.2.2 hX).trans h.1,(hc.frozen (p:=⟨b,0,none⟩) h.2.2 hX).trans h.2.1,Nat.lt_of_lt_of_le h.2.2 hc.size⟩
theorem DBx.below {b:Nat} {u:Value} {v v':World} (h:DBx b u v) (hb:Below v.heap.size v v'):DBx b u v':=h.a0e (Below.chg hb fun _=>False) fun h=>h
theorem DBx.new (u:Value) (t:TypeId) (v:World):DBx v.heap.size u (v.alloc (.cells #[u] t)):=by
 refine⟨?_,?_,?_⟩<;>go_simp
theorem DBx.put {b:Nat} {u u':Value} {v:World} (h:DBx b u v):DBx b u' (v.setCell ⟨b,0,none⟩ u'):=
 ⟨World.cell?_setCell_same _ _ _ h.1,by simpa using h.2.1,by simpa [World.setCell] using h.2.2⟩
theorem IntR.cut {v:World} {g o cap:Nat} {l:List Int} (h:IntR v (.slice (some ⟨g,o,none⟩) l.length cap) l) {a k:Nat} (hk:a+k≤l.length) (c:Nat) (hc:k≤c):IntR v (.slice (some ⟨g,o+a,none⟩) k c) ((l.drop a).take k):=by
 obtain⟨ad',cap',he,h1,hn,h3⟩:=h;injection he with e1 e2 e3;subst e1 e3;have hlk:((l.drop a).take k).length=k:=by rw [List.length_take,List.length_drop];omega
 refine⟨_,c,by rw [hlk],by omega,(fun h=>by cases h),?_⟩
 rcases h3 with h3|⟨g',o',h4,h5,h6⟩
 ·left;rw [h3];simp
 ·injection h4 with h4;injection h4 with h7 h8;subst h7 h8;refine .inr ⟨_,_,rfl,h5,fun j hj=>?_⟩;have hj':a+j<l.length:=by omega
  rw [List.getElem_take,List.getElem_drop,Nat.add_assoc];exact h6 (a+j) hj'
def d6x (p:P.Pc) (w:World) (e:Ending) (w':World):Prop:=e=.returned (.agg #[.int .i64 p.1.1,.int .i64 p.1.2,.string (S p.2)])∧Below w.heap.size w w'
def PcBx (b:Nat) (v:World):Prop:=v.cell? ⟨b,0,none⟩=some (.int .i64 0)∧v.cell? ⟨b,1,none⟩=some (.int .i64 0)∧v.cell? ⟨b,2,none⟩=some (.string (S []))∧(v.frozen? ⟨b,0,none⟩=false∧v.frozen? ⟨b,1,none⟩=false∧v.frozen? ⟨b,2,none⟩=false)∧b<v.heap.size
theorem PcBx.below {b:Nat} {v v':World} (h:PcBx b v) (hb:Below v.heap.size v v'):PcBx b v':=by
 obtain⟨h1,h2,h3,⟨h4,h5,h6⟩,h7⟩:=h;have hc:Chg (fun _=>False) v v':=Below.chg hb _;exact⟨(hc.cell (p:=⟨b,0,none⟩) h7 id).trans h1,(hc.cell (p:=⟨b,1,none⟩) h7 id).trans h2,(hc.cell (p:=⟨b,2,none⟩) h7 id).trans h3,⟨(hc.frozen (p:=⟨b,0,none⟩) h7 id).trans h4,(hc.frozen (p:=⟨b,1,none⟩) h7 id).trans h5,(hc.frozen (p:=⟨b,2,none⟩) h7 id).trans h6⟩,Nat.lt_of_lt_of_le h7 hb.size⟩
theorem d8f (dv sv:Value) (l:P.Dic) (st:List Int) (a:Nat) (w:World) (hu:EntR w dv l) (hs:IntR w sv st) (ha:a<st.length) :
 Calls Tryz.prog 158 #[.agg #[dv],sv,.int .i64 a] w (d6x (P.a2v l st a) w):=by
 have hb0:Below w.heap.size w ((w.alloc (.cells #[dv] 26)).alloc (.cells #[.int .i64 0,.int .i64 0,.string (S [])] 173)):=((Below.refl w.heap.size w).alloc lZ _).alloc sZ _
 have HB0:=qh hb0;have HU:=qh hu;have HST:=qh hs
 have HX:=qh ((Box1.new dv 26 w).below (bZ.alloc lZ (.cells #[.int .i64 0,.int .i64 0,.string (S [])] 173)))
 have HR:=qh (show PcBx (w.heap.size+1) ((w.alloc (.cells #[dv] 26)).alloc (.cells #[.int .i64 0,.int .i64 0,.string (S [])] 173)) by refine⟨?_,?_,?_,⟨?_,?_,?_⟩,?_⟩<;>go_simp)
 clear hb0
 obtain⟨ad,cap,rfl,_,_⟩:=hu
 obtain⟨sd,sc,rfl,hsl,_⟩:=hs
 obtain⟨g,o,hga,_⟩:=HST.o.at 0 oZ
 subst hga
 have i0:(a:Int)<(st.length:Int):=by omega
 go_enter Tryz.func158,Tryz.ntmps158
 go_wp2_with fail
 go_loopw [7] (fun i wr=>∃n:Nat,n≤6∧a+n≤st.length∧i=.int .i64 n∧P.a2v l st a=P.a4g l st a n∧Box1 w.heap.size (.slice ad l.length cap) wr∧PcBx (w.heap.size+1) wr∧EntR wr (.slice ad l.length cap) l∧Below w.heap.size w wr) (fun i _=>(intOf i).toNat)
 case atStart=>exact⟨min 6 (st.length-a),Nat.min_le_left _ _,by omega,by congr 1;omega,rfl,HX.o,HR.o,HU.o.below HB0.o,HB0.o⟩
 case round=>
  clear HX HR HB0;obtain⟨n,hn6,hns,rfl,hbs,hbx,hpb,hen,hb⟩:=hrel;have HBS:=qh hbs;have HBX:=qh hbx;have HPB:=qh hpb;have HEN:=qh hen;have HB:=qh hb;clear hbs hen;obtain⟨k0,k1⟩:=hbx
  by_cases hn1:1≤n
  ·have i1:(1:Int)≤(n:Int):=by omega
   have i2:(a:Int)+(n:Int)≤(sc:Int):=by omega
   have i3:¬sc=a:=by omega
   have i4:IntKind.i64.wrap ((a:Int)+(n:Int))=(a:Int)+(n:Int):=by rw [IntKind.wrap_i64];omega
   have i5:(0:Int)≤(a:Int)+(n:Int):=by omega
   have i6:a≤((a:Int)+(n:Int)).toNat:=by omega
   have i7:((a:Int)+(n:Int)).toNat-a=n:=by omega
   have hbd:=(Below.refl wr.heap.size wr).drew;have HBD:=qh (hb.trans (hbd.mono hb.size));have HXD:=qh (HBX.o.below hbd);have HPD:=qh (HPB.o.below hbd);have HED:=qh (HEN.o.below hbd);have HFR:=qh (IntR.cut HST.o hns (sc-a) oZ);clear hb hbd hpb
   go_upto_region 4 with fail
   refine wp_region_held_drew (S:=Box1 w.heap.size (.slice ad l.length cap)) kZ HXD.o (fun hS0=>?_);generalize wr.drew=v0 at *;refine tk4 0 hS0 ?_;refine tk4 1 hS0 ?_;refine tk4 2 hS0 ?_;refine tk4 3 hS0 ?_;refine tk4 4 hS0 ?_;refine tk4 5 hS0 ?_;refine tk4 6 hS0 ?_;refine trd 7 fun K hK=>?_;go_simp;refine (c2s _ _ l ((st.drop a).take n) _ HED.o (HFR.o.below HBD.o)).mono ?_;rintro e v1 ⟨rfl,hb⟩;have HB4:=bt HBD hb;have HX4:=qh (HXD.o.below hb);have HP4:=qh (HPD.o.below hb);have HE4:=qh (HED.o.below hb);refine hK.out _ _ (hS0.below hb) (fun hS1=>?_);clear hK K hb hS0
   try simp only [qA,qB,qC,Act.put,qD,qE,qF]
   have HT:=qh (show P.hasE ((st.drop a).take n) l=true→P.a2v l st a=(((a:Int),(n:Int)),P.a3b ((st.drop a).take n) l) from fun h=>by
    obtain⟨m,rfl⟩:∃m,n=m+1:=⟨n-1,by omega⟩;rw [HBS.o];unfold P.a4g;rw [if_pos h])
   have HN:=qh (show P.hasE ((st.drop a).take n) l=false→P.a2v l st a=P.a4g l st a (n-1) from fun h=>by
    obtain⟨m,rfl⟩:∃m,n=m+1:=⟨n-1,by omega⟩;rw [HBS.o];(conv=>lhs;unfold P.a4g);rw [if_neg (by rw [h];decide)];rfl)
   generalize P.a3b ((st.drop a).take n) l=tx at *;generalize P.hasE ((st.drop a).take n) l=q at *;refine tk4 8 hS1 ?_;refine tk4 9 hS1 ?_;refine tk4 10 hS1 ?_;refine tk4 11 hS1 ?_;refine tk4 12 hS1 ?_;refine wpAnyH_done kZ ?_ _;clear hS1
   cases q
   ·have HNN:=qh (HN.o rfl);clear HT HN;go_wp2
    go_roundw
    case rel=>exact⟨n-1,by omega,by omega,by congr 1;omega,HNN.o,HX4.o,HP4.o,HE4.o,HB4.o⟩
    case measure=>simp [intOf];omega
   ·have HTT:=qh (HT.o rfl);clear HT HN;obtain⟨p0,p1,p2,⟨p3,p4,p5⟩,p6⟩:=HP4.o;go_wp2;refine bodyPost_ret (v:=.agg #[.int .i64 a,.int .i64 n,.string (S tx)]) (by simp [results,Tryz.results158,go_sem,p0,p1,p2]) rfl ⟨by rw [HTT.o],?_⟩;exact ((HB4.o.setCell sZ _).setCell sZ _).setCell sZ _
  ·have i1:¬(1:Int)≤(n:Int):=by omega
   have HTT:=qh (show P.a2v l st a=(((a:Int),1),[]) by rw [HBS.o,show n=0 by omega];rfl);clear hb;obtain⟨p0,p1,p2,⟨p3,p4,p5⟩,p6⟩:=HPB.o;go_wp2;refine bodyPost_ret (v:=.agg #[.int .i64 a,.int .i64 1,.string (S [])]) (by simp [results,Tryz.results158,go_sem,p0,p1,p2]) rfl ⟨by rw [HTT.o],?_⟩;exact ((HB.o.setCell sZ _).setCell sZ _).setCell sZ _
def a4f (l:List P.Pc):List Value:=l.flatMap fun p=>[.int .i64 p.1.1,.int .i64 p.1.2,.string (S p.2)]
theorem b5s (l:List P.Pc) (p:P.Pc):a4f (l++[p])=a4f l++[.int .i64 p.1.1,.int .i64 p.1.2,.string (S p.2)]:=by unfold a4f;rw [List.flatMap_append];rfl
theorem b7o:∀(l:List P.Pc) (j:Nat) (h:j<l.length),(a4f l)[j*3]?=some (.int .i64 (l[j]'h).1.1)∧(a4f l)[j*3+1]?=some (.int .i64 (l[j]'h).1.2)∧(a4f l)[j*3+2]?=some (.string (S (l[j]'h).2))
 |a::l,0,_=>⟨rfl,rfl,rfl⟩
 |a::l,j+1,h=>by
  have ih:=b7o l j (by simpa using h)
  have e:∀i,(a4f (a::l))[(j+1)*3+i]?=(a4f l)[j*3+i]?:=fun i=>by
   show ([Value.int .i64 a.1.1,.int .i64 a.1.2,.string (S a.2)]++a4f l)[(j+1)*3+i]?=_
   rw [List.getElem?_append_right (by simp;omega)]
   congr 1
   simp;omega
  refine⟨?_,?_,?_⟩
  ·have:=e 0;rw [Nat.add_zero,Nat.add_zero]at this;rw [this];exact ih.1
  ·rw [e 1];exact ih.2.1
  ·rw [e 2];exact ih.2.2
def PcR (v:World) (u:Value) (l:List P.Pc):Prop:=
 ∃(ad:Option Addr) (cap:Nat),u=.slice ad l.length cap∧l.length≤2^30∧(l=[]∨∃g o,ad=some ⟨g,o,none⟩∧g<v.heap.size∧∀(j:Nat) (h:j<l.length),v.cell? ⟨g,o+j*3,none⟩=some (.int .i64 (l[j]'h).1.1)∧v.cell? ⟨g,o+j*3+1,none⟩=some (.int .i64 (l[j]'h).1.2)∧v.cell? ⟨g,o+j*3+2,none⟩=some (.string (S (l[j]'h).2)))
theorem PcR.below {v v':World} {u:Value} {l:List P.Pc} (h:PcR v u l) (hb:Below v.heap.size v v'):PcR v' u l:=by
 obtain⟨ad,cap,h1,h2,h3⟩:=h;refine⟨ad,cap,h1,h2,h3.imp id ?_⟩;rintro⟨g,o,h4,h5,h6⟩;refine⟨g,o,h4,Nat.lt_of_lt_of_le h5 hb.size,fun j hj=>?_⟩;obtain⟨a,b,c⟩:=h6 j hj;exact⟨(hb.cell (p:=⟨g,_,none⟩) h5).trans a,(hb.cell (p:=⟨g,_,none⟩) h5).trans b,(hb.cell (p:=⟨g,_,none⟩) h5).trans c⟩
theorem PcR.at {v:World} {ad:Option Addr} {n cap:Nat} {l:List P.Pc} (h:PcR v (.slice ad n cap) l) (j:Nat) (hj:j<l.length):∃g o,ad=some ⟨g,o,none⟩∧g<v.heap.size∧v.cell? ⟨g,o+j*3,none⟩=some (.int .i64 (l[j]'hj).1.1)∧v.cell? ⟨g,o+j*3+1,none⟩=some (.int .i64 (l[j]'hj).1.2)∧v.cell? ⟨g,o+j*3+2,none⟩=some (.string (S (l[j]'hj).2)):=by
 obtain⟨ad',cap',he,_,h3⟩:=h;exact zq39
def OwnP (B:Nat) (v:World) (u:Value) (l:List P.Pc):Prop:=v.ownsRow B 173 3 u l.length (a4f l)
theorem OwnP.form {B:Nat} {v:World} {u:Value} {l:List P.Pc} (h:OwnP B v u l):∃ad cap,u=.slice ad l.length cap:=by
 exact zq57
theorem OwnP.read {B:Nat} {v:World} {u:Value} {l:List P.Pc} (h:OwnP B v u l) (hl:l.length≤2^30):PcR v u l:=by
 unfold OwnP at h
 rcases id h.2 with⟨rfl,h0⟩|⟨g,cap,cur,rfl,hg,_⟩
 ·have e:l=[]:=List.eq_nil_of_length_eq_zero h0;subst e;exact⟨none,0,rfl,by simp,.inl rfl⟩
 ·refine⟨some ⟨g,0,none⟩,cap,rfl,hl,.inr ⟨g,0,rfl,(World.ownsRow.lt h g rfl).2,fun j hj=>?_⟩⟩;obtain⟨a,b,c⟩:=b7o l j hj;have c1:=World.ownsRow.cellAt h (j*3) oZ;have c2:=World.ownsRow.cellAt h (j*3+1) oZ;have c3:=World.ownsRow.cellAt h (j*3+2) oZ;exact⟨by rw [Nat.zero_add];exact c1.trans a,by rw [Nat.zero_add];exact c2.trans b,by rw [Nat.zero_add];exact c3.trans c⟩
theorem c3b:(Tryz.prog.info? 173).map (fun i=>(i.zero,i.size,i.bytes))=some (some (.agg #[.int .i64 0,.int .i64 0,.string ⟨#[]⟩]),3,32):=by kernel_rfl
structure SgR (w:World) (dv:Value) (l:P.Dic) (st:List Int) (s:Value) (row:List P.Pc) (a f:Nat) (v:World):Prop where
 own:OwnP (w.heap.size+1) v s row
 bx:DBx w.heap.size dv v
 bel:Below w.heap.size w v
 fuel:st.length-a≤f
 seg:P.segA l st=row++P.segs l st f a
 la:a≤st.length
 lr:row.length≤a
theorem SgR.app {w v v1 v':World} {dv s u':Value} {l:P.Dic} {st:List Int} {row:List P.Pc} {a f a' f':Nat} {p:P.Pc} (h:SgR w dv l st s row a f v) (hb:Below v.heap.size v v1)
 (hown:v'.ownsRow (w.heap.size+1) 173 3 u' (row.length+1) (a4f row++[.int .i64 p.1.1,.int .i64 p.1.2,.string (S p.2)])) (hgr:v1.grownBy v' s.ownBlock)
 (h1:st.length-a'≤f') (h2:P.segs l st f a=p::P.segs l st f' a') (h3:a'≤st.length) (h4:a<a'):SgR w dv l st u' (row++[p]) a' f' v':=by
 have hz:=h.bel.size
 have hz1:=hb.size
 have hlt:∀k,s.ownBlock=some k→w.heap.size+1≤k:=fun k hk=>(World.ownsRow.lt h.own k hk).1
 have hc:Chg (fun b=>s.ownBlock=some b) v1 v':=Chg.grown hgr
 refine⟨?_,(h.bx.below hb).a0e hc (fun e=>by have:=hlt _ e;omega),(h.bel.trans (hb.mono hz)).trans (hc.below oZ (fun b e=>by have:=hlt b e;omega)),h1,?_,h3,?_⟩
 ·unfold OwnP;rw [b5s,List.length_append];exact hown
 ·rw [h.seg,h2,List.append_assoc];rfl
 ·rw [List.length_append];have:=h.lr;simp;omega
def SgPost (l:List P.Pc) (w:World) (e:Ending) (w':World):Prop:=∃u,e=.returned u∧PcR w' u l∧Below w.heap.size w w'
theorem d1y (dv sv:Value) (l:P.Dic) (st:List Int) (w:World) (hu:EntR w dv l) (hs:IntR w sv st) (hl60:st.length≤60) :
 Calls Tryz.prog 87 #[.agg #[dv],sv] w (SgPost (P.segA l st) w):=by
 obtain⟨i0,hi,hz0,hz1,hz2⟩:=info_parts c3b
 have hb0:Below w.heap.size w ((w.alloc (.cells #[dv] 26)).alloc (.cells #[] 173)):=((Below.refl w.heap.size w).alloc lZ _).alloc sZ _
 have HST:=qh hs;have HU:=qh hu
 have HG:=qh (show SgR w dv l st (.slice (some ⟨w.heap.size+1,0,none⟩) 0 0) [] 0 st.length ((w.alloc (.cells #[dv] 26)).alloc (.cells #[] 173)) from
  ⟨by have h:=World.ownsRow_lit (base:=w.heap.size+1) (e:=173) (size:=3) (w.alloc (.cells #[dv] 26)) #[] 0 sZ (Nat.zero_le _) sZ;simp at h;exact h,
   (DBx.new dv 26 w).below (bZ.alloc lZ _),hb0,by omega,rfl,by omega,by simp⟩)
 clear hb0
 obtain⟨ad,cap,rfl,_,_⟩:=hu
 obtain⟨sd,sc,rfl,hsl,_⟩:=hs
 go_enter Tryz.func87,Tryz.ntmps87
 go_wp2_with fail
 go_loopw [5,6] (fun s i wr=>∃(row:List P.Pc) (a f:Nat),i=.int .i64 a∧SgR w (.slice ad l.length cap) l st s row a f wr) (fun _ i _=>st.length-(intOf i).toNat)
 case atStart=>exact⟨[],0,st.length,rfl,HG.o⟩
 case round=>
  clear HG;obtain⟨row,a,f,rfl,hg⟩:=hrel;have HG:=qh hg;obtain⟨ua,uc,rfl⟩:=hg.own.form
  by_cases hlt:a<st.length
  ·have i1:(a:Int)<(st.length:Int):=by omega
   obtain⟨k,hk,hk1,hk2⟩:=P.b6n (d:=l) hlt;have HK:=qh (P.c2h hlt hg.fuel hk hk1);have HKE:=qh hk;have hra:=hg.lr;obtain⟨k0,_⟩:=hg.bx;clear hg hk
   go_wp2_with fail
   refine (d8f _ _ l st a _ (HU.o.below HG.o.bel) (HST.o.below HG.o.bel) hlt).mono ?_;rintro e w1 ⟨rfl,hb⟩;rw [HKE.o];obtain⟨tx,htx⟩:∃tx,(P.a2v l st a).2=tx:=⟨_,rfl⟩;rw [htx];have HPE:=qh (show P.a2v l st a=(((a:Int),(k:Int)),tx) from Prod.ext HKE.o htx);clear htx k0;have hbx:Below w1.heap.size w1 ((w1.alloc (.cells #[.int .i64 a,.int .i64 k,.string (S tx)] 173)).alloc (.cells #[.int .i64 a,.int .i64 k,.string (S tx)] 173)):=(bZ.alloc lZ _).alloc sZ _;have HB1:=qh (hb.trans (hbx.mono hb.size));have HZ:=qh (show w.heap.size+1≤w1.heap.size by have h1:=hb.size;have h2:=HG.o.bx.2.2;omega);have HOW:=qh (show OwnP (w.heap.size+1) ((w1.alloc (.cells #[.int .i64 a,.int .i64 k,.string (S tx)] 173)).alloc (.cells #[.int .i64 a,.int .i64 k,.string (S tx)] 173)) (.slice ua row.length uc) row from a0j HG.o.own (Below.chg HB1.o (fun _=>False)) (fun _ _ h=>h));have HLT:=qh (show ∀j,(Value.slice ua row.length uc).ownBlock=some j→j<w1.heap.size from fun j hj=>Nat.lt_of_lt_of_le (World.ownsRow.lt HG.o.own j hj).2 hb.size);clear hb hbx
   go_wp2_with (at_builtin;refine wpList_append_own _ rfl _ _ 115 rfl (w.heap.size+1) 173 i0 (.agg #[.int .i64 0,.int .i64 0,.string ⟨#[]⟩]) 3 32 Tryz.underlying115 hi hz0 hz1 hz2 rfl dZ (.slice ua row.length uc) row.length (a4f row) rfl HOW.o ⟨w1.heap.size+1,0,none⟩ 1 1 [.int .i64 a,.int .i64 k,.string (S tx)] rfl rfl ?_ ?_ ?_ ?_ ?_ ?_)
   all_goals first|exact⟨rfl,rfl⟩|(intro z hz;simp only [List.mem_cons,List.not_mem_nil,or_false]at hz;rcases hz with rfl|rfl|rfl<;>rfl)|(unfold maxLen;omega)|omega|(have h1:=HZ.o;simp;omega)|(intro i z hz;rcases i with _|_|_|i;(injection hz with hz;subst hz;rw [add0];go_simp);(injection hz with hz;subst hz;go_simp);(injection hz with hz;subst hz;go_simp);cases hz)|skip
   intro u4 w4 hown hgr _;obtain⟨f',hf',hse⟩:=HK.o;have HG4:=qh (HG.o.app (p:=(((a:Int),(k:Int)),tx)) (a':=a+k) (f':=f') HB1.o hown hgr hf' (by rw [hse,HPE.o]) hk2 oZ)
   have c1:w4.cell? ⟨w1.heap.size,1,none⟩=some (.int .i64 k):=by
    rw [(Chg.grown hgr).cell (p:=⟨w1.heap.size,1,none⟩) (by simp;omega) (fun e=>absurd (HLT.o _ e) (Nat.lt_irrefl _))];go_simp
   obtain⟨ub,uc4,rfl⟩:=HG4.o.own.form;exact zq143
  ·have HE:=qh (show P.segA l st=row by rw [hg.seg,P.c5q oZ,List.append_nil]);have hra:=hg.lr;have hla:=hg.la;clear hg;go_wp2;go_ret;exact⟨_,rfl,by rw [HE.o];exact HG.o.own.read oZ,HG.o.bel⟩
theorem d3g (dv sv:Value) (l:P.Dic) (st:List Int) (w:World) (hu:EntR w dv l) (hs:IntR w sv st) (hm:Small l) (hE:Env w) :
 Calls Tryz.prog 85 #[.agg #[dv],sv] w fun e w'=>e=.returned (.bool (P.dic l&&P.a2z st))∧Below w.heap.size w w':=by
 have hb0:Below w.heap.size w (w.alloc (.cells #[dv] 26)):=bZ.alloc lZ _
 have HU:=qh (hu.below hb0);have HST:=qh (hs.below hb0);have HB0:=qh hb0;have HE:=qh (hE.below hb0 hE.size)
 clear hb0
 obtain⟨ad,cap,rfl,_,_⟩:=hu
 obtain⟨sd,sc,rfl,_,_⟩:=hs
 go_enter Tryz.func85,Tryz.ntmps85
 go_wp2_with fail
 refine (a1k _ l _ HU.o hm.texts HE.o).mono ?_
 rintro e w1 ⟨rfl,hb⟩
 have HB1:=bt HB0 hb;have HST1:=qh (HST.o.below hb)
 clear hb
 obtain⟨q,hq⟩:∃q,P.dic l=q:=⟨_,rfl⟩
 have HQ:=qh hq
 rw [hq]
 clear hq
 cases q
 ·go_wp2;go_ret;exact⟨a0a (by rw [HQ.o];rfl),HB1.o⟩
 ·go_wp2_with fail
  refine (c1n _ st _ HST1.o).mono ?_;rintro e w2 ⟨rfl,hb⟩;have HB2:=bt HB1 hb;clear hb;obtain⟨q,hq⟩:∃q,P.a2z st=q:=⟨_,rfl⟩;have HQ2:=qh hq;rw [hq];clear hq;go_wp2;go_ret;exact⟨a0a (by rw [HQ.o,HQ2.o];rfl),HB2.o⟩
namespace P
theorem c1h {t:Bs} (h:∀b∈t,b≠35):Go.Lib.replaceAll t [35] [61]=t:=by
 have hc:Go.Lib.count t [35]=0:=by
  rw [Go.Lib.count_one];exact List.count_eq_zero.2 fun hm=>h 35 hm rfl
 unfold Go.Lib.replaceAll Go.Lib.replace Go.Lib.replaceNum;rw [if_neg dZ,if_pos (.inl dZ),hc];rfl
theorem c2u {t:Bs} (h:∀b∈t,b≠35):Go.Lib.replaceAll (35::t) [35] [61]=61::t:=by
 have hc:Go.Lib.count (35::t) [35]=1:=by
  rw [Go.Lib.count_one,List.count_cons_self,List.count_eq_zero.2 fun hm=>h 35 hm rfl]
 have hi:Go.Lib.index (35::t) [35]=((0:Nat):Int):=by
  unfold Go.Lib.index;rw [if_pos sZ];rfl
 unfold Go.Lib.replaceAll Go.Lib.replace Go.Lib.replaceNum;rw [if_neg dZ,if_pos (.inl dZ),hc,Go.Lib.replaceK_hit _ _ _ _ _ hi];rfl
theorem c3h (s:Int):Go.Lib.replaceAll (fmt s) [35] [61]=raw s:=by
 obtain⟨t,ht,h⟩:=c0u s;have hl:=fun m=>b3v t m ht
 rcases h with h|h
 ·have hf:fmt s=fmtL (midK s) t:=by unfold fmt;rw [h]
  unfold raw;rw [hf,b2w (hl _),c1h (hl _)]
 ·have hf:fmt s=35::fmtL (midK s) t:=by
   unfold fmt;rw [h]
   conv=>lhs;unfold fmtL
   rfl
  unfold raw;rw [hf,List.map_cons,b2w (hl _),c2u (hl _)];rfl
end P
theorem c3i (m:Int) (w:World) (hE:Env w) :
 Calls Tryz.prog 107 #[.string (S (P.fmt m)),.string (S [35]),.string (S [61])] w fun e w'=>e=.returned (.string (S (P.raw m)))∧Below w.heap.size w w':=by
 obtain⟨n,hm⟩:=hE.2
 have hl:=P.a7p m
 have hc:=Lib.countB_mul_le (S [35]) dZ (S (P.fmt m)).size (S (P.fmt m)) lZ
 have hc2:Lib.countB (S (P.fmt m)) (S [35])≤(P.fmt m).length:=by rw [S_size,S_size]at hc;simpa using hc
 refine (Tryz.strings_ReplaceAll (S (P.fmt m)) (S [35]) (S [61]) n w (by rw [S_size];omega) hm dZ (by rw [S_size,S_size];simp;omega)).mono ?_
 rintro e w' ⟨rfl,hb⟩
 rw [S_dataList,S_dataList,S_dataList,P.c3h]
 exact⟨rfl,hb⟩
theorem c0s (l:List (Int×Str)):(a0q l).length=l.length*2:=by
 induction l with
 |nil=>rfl
 |cons a l ih=>
  have e:a0q (a::l)=.int .i64 a.1::.string (S a.2)::a0q l:=rfl;rw [e,List.length_cons,List.length_cons,List.length_cons,ih];omega
theorem b9m {l:List (Int×Str)} {x:Value} (h:x∈a0q l):x.oneCell'=true:=by
 unfold a0q at h;rw [List.mem_flatMap]at h;obtain⟨a,_,h⟩:=h;simp only [List.mem_cons,List.not_mem_nil,or_false]at h
 rcases h with rfl|rfl<;>rfl
theorem b3x (l m:List (Int×Str)):a0q (l++m)=a0q l++a0q m:=by unfold a0q;rw [List.flatMap_append]
theorem b2i {B:Nat} {v:World} {u:Value} {l:List (Int×Str)} (h:a1d B v u l):c2v v 2 u l.length (a0q l):=by
 refine⟨c0s l,fun x hx=>b9m hx,?_⟩
 rcases id h.2 with⟨hv,h0⟩|⟨g,cap,cur,hv,_⟩
 ·exact .inl ⟨hv,h0⟩
 ·have hob:u.ownBlock=some g:=by rw [hv];rfl
  exact .inr ⟨_,cap,hv,fun j x hx=>World.ownsRow.cells h hob j x hx⟩
theorem b6u {w w1 w2:World} {v v':Value} {l m:List (Int×Str)} (hown:a1d w.heap.size w1 v l) (hb:Below w.heap.size w w1)
 (h:w2.ownsRow w.heap.size 177 2 v' (l.length+m.length) (a0q l++a0q m)) (hg:w1.grownBy w2 v.ownBlock) :
 a1d w.heap.size w2 v' (l++m)∧Below w.heap.size w w2:=by
 refine⟨?_,hb.grown hg hb.size (fun k hk=>(World.ownsRow.lt hown k hk).1)⟩
 unfold a1d;rw [b3x,List.length_append];exact h
theorem d3y (sv u:Value) (st:List Int) (l:List P.Pc) (w:World) (hs:IntR w sv st) (hu:PcR w u l) (hsl:P.a2z st=true) (hl:l.length≤60)
 (hp:∀p∈l,∃a k:Nat,a<st.length∧p.1=((a:Int),(k:Int))∧(p.2=[]∨(P.a0o p.2).2=true)) (hE:Env w) :
 Calls Tryz.prog 86 #[sv,u] w (a7x (P.render (P.a1a st l)) w):=by
 obtain⟨i0,hi,hz0,hz1,hz2⟩:=info_parts a9p
 have hba:=(Below.refl w.heap.size w).alloc lZ (.cells #[] 177)
 have HST:=qh hs;have HU:=qh hu;have HSL:=qh hsl;have HP:=qh hp;have HE:=qh hE
 have HOW:=qh (show a1d w.heap.size (w.alloc (.cells #[] 177)) (.slice (some ⟨w.heap.size,0,none⟩) 0 0) [] from World.ownsRow_made _ _ _ lZ dZ (by rfl))
 have HB0:=qh hba
 obtain⟨sd,sc,rfl,_,_⟩:=hs
 obtain⟨ad,cap,rfl,_,_⟩:=hu
 clear hba hsl hp hE
 go_enter Tryz.func86,Tryz.ntmps86
 go_wp2
 go_loopw [6,16] (fun v i wr=>∃j:Nat,j≤l.length∧i=.int .i64 j∧a1d w.heap.size wr v (P.a1a st (l.take j))∧Below w.heap.size w wr) (fun _ i _=>l.length-(intOf i).toNat)
 case atStart=>exact⟨0,Nat.zero_le _,rfl,HOW.o,HB0.o⟩
 case round=>
  clear HOW HB0;obtain⟨j,hj,rfl,hown,hb⟩:=hrel;have HOWN:=qh hown;have HB:=qh hb;obtain⟨va,vc,rfl⟩:=a7e hown;have hal:=P.a6p st (l.take j);rw [List.length_take,Nat.min_eq_left hj]at hal
  by_cases hlt:j<l.length
  ·obtain⟨g,o,hga,hgl,c0,c1,c2⟩:=(HU.o.below hb).at j hlt;obtain⟨a,k,hast,hpk,htx⟩:=HP.o _ (List.getElem_mem hlt);have HSN:=qh (show P.a1a st (l.take (j+1))=P.a1a st (l.take j)++P.a2y st l[j] by rw [a0f l j hlt,P.b2c]);subst hga;generalize l[j]=p at *;obtain⟨⟨p0,p1⟩,tx⟩:=p;simp only [Prod.mk.injEq]at hpk;obtain⟨rfl,rfl⟩:=hpk;simp only at c0 c1 c2 htx;have HTX:=qh htx;have i1:(j:Int)<(l.length:Int):=by omega
   have hbz:=hb.size;have HEW:=qh (HE.o.below hb HE.o.size);obtain⟨at0,hat0⟩:∃x,P.a1a st (l.take j)=x:=⟨_,rfl⟩;rw [hat0]at HOWN HSN hal⊢;clear hb hown htx hat0
   cases tx with
   |nil=>
    obtain⟨m,hm,hms,hmd⟩:=P.a8i HSL.o hast;have HMS:=qh hms;have HPA:=qh (show P.a2y st (((a:Int),(k:Int)),[])=[(1,P.raw (m:Int))] by rw [P.b7d rfl rfl,hmd]);obtain⟨gs,os,hgs,hgsl,cs⟩:=(HST.o.below HB.o).at a hast;rw [hm]at cs;subst hgs;have i2:(a:Int)<(st.length:Int):=by omega
    clear hms hm hmd
    go_wp2_with fail
    refine (a2t m _ HMS.o).mono ?_;rintro e w1 ⟨rfl,hb1⟩;have hbx:Below wr.heap.size wr w1:=(bZ.alloc lZ _).trans (hb1.mono sZ);have HE1:=qh (HEW.o.below hbx HEW.o.size);have HX1:=qh hbx;clear hb1 hbx c0 c1 c2 cs
    go_wp2_with fail
    refine (c3i (m:Int) _ HE1.o).mono ?_;rintro e w2 ⟨rfl,hb2⟩;have HX2:=bt HX1 hb2;have HOW2:=qh (show (w2.alloc (.cells #[.int .i64 1,.string (S (P.raw (m:Int)))] 177)).ownsRow w.heap.size 177 2 (.slice va at0.length vc) at0.length (a0q at0) from (a0h HOWN.o HX2.o lZ).alloc _);have hzw2:w.heap.size≤w2.heap.size:=Nat.le_trans hbz HX2.o.size;have hal2:at0.length≤600:=by omega
    clear hb2;generalize P.raw (m:Int)=rw' at *
    go_wp2_with (at_builtin;refine wpList_append_own _ rfl _ _ 171 rfl w.heap.size 177 i0 (.agg #[.int .i64 0,.string ⟨#[]⟩]) 2 24 Tryz.underlying171 hi hz0 hz1 hz2 rfl dZ _ at0.length (a0q at0) rfl HOW2.o ⟨w2.heap.size,0,none⟩ 1 1 [.int .i64 1,.string (S rw')] rfl rfl ?_ ?_ ?_ ?_ ?_ ?_)
    all_goals first|exact⟨rfl,rfl⟩|(intro z hz;simp only [List.mem_cons,List.not_mem_nil,or_false]at hz;rcases hz with rfl|rfl<;>rfl)|(unfold maxLen;omega)|omega|(simp;omega)|(intro i z hz;rcases i with _|_|i;(injection hz with hz;subst hz;rw [add0];go_simp);(injection hz with hz;subst hz;go_simp);cases hz)|skip
    intro v' w3 hown' hgrow _;have R:=qh (b3z (x:=(1,rw')) (w1:=w2) (o:=(.cells #[.int .i64 1,.string (S rw')] 177)) (v:=.slice va at0.length vc) hzw2 (a0h HOWN.o HX2.o lZ) (HB.o.trans (HX2.o.mono hbz)) hown' hgrow);exact zq111
   |cons x tl=>
    have hok:(P.a0o (x::tl)).2=true:=HTX.o.resolve_left sZ;have hl60:=P.a9b hok;have HOK:=qh hok;have HPA:=qh (show P.a2y st (((a:Int),(k:Int)),x::tl)=(P.a0o (x::tl)).1 from P.a9a sZ);have hne:((x::tl:Str) != [])=true:=rfl;have hne2:((x::tl:Str)==[])=false:=rfl;have hne3:¬(x::tl:Str)=[]:=by simp
    generalize x::tl=tx at *;clear hok
    go_wp2_with fail
    refine (a4a tx _ oZ (HEW.o.alloc _)).mono ?_;rintro e w1 ⟨pv,rfl,hpo,hb1⟩;have hpo':=hpo HOK.o;rw [HOK.o];have hbx:Below wr.heap.size wr w1:=(bZ.alloc lZ _).trans (hb1.mono sZ);have HX1:=qh hbx;have HSRC:=qh (b2i hpo');have hml:=P.b1v tx;have HOW1:=qh (a0h HOWN.o hbx lZ);obtain⟨ma,mc,rfl⟩:=a7e hpo';have hz1':w.heap.size≤w1.heap.size:=Nat.le_trans hbz hbx.size;have hal2:at0.length≤600:=by omega
    clear hb1 hbx hpo hpo' c0 c1 c2;generalize (P.a0o tx).1=ma1 at *
    go_wp2_with (at_builtin;refine a0x rfl _ _ 171 rfl w.heap.size 177 i0 (.agg #[.int .i64 0,.string ⟨#[]⟩]) 2 24 Tryz.underlying171 hi hz0 hz1 hz2 rfl dZ _ at0.length (a0q at0) rfl HOW1.o _ ma1.length (a0q ma1) rfl HSRC.o ?_ ?_ ?_ ?_)
    ·unfold maxLen;omega
    ·omega
    ·exact hz1'
    intro v' w3 hown' hgrow _;have R:=qh (b6u HOW1.o (HB.o.trans (HX1.o.mono hbz)) hown' hgrow);exact zq111
  ·have hjl:j=l.length:=by omega
   have hsum:(P.a1a st (l.take j)).length≤600:=by omega
   have HTE:=qh (show l.take j=l from List.take_of_length_le oZ);rw [HTE.o]at HOWN hsum;rw [HTE.o];have i1:¬(j:Int)<(l.length:Int):=by omega
   have HAT:=qh (show ∀x∈P.a1a st l,x.2.length≤2^29 from fun x hx=>P.b2f HP.o x hx);clear hown hb hal
   go_wp2_with fail
   refine (c4s _ _ _ (b4y HOWN.o) hsum HAT.o).mono ?_;rintro e w2 ⟨rfl,hb2⟩;have HB2:=bt HB hb2;clear hb2;go_wp2;go_ret2;exact⟨rfl,HB2.o⟩
theorem a4h (dv sv:Value) (l:P.Dic) (st:List Int) (w:World) (hu:EntR w dv l) (hs:IntR w sv st) (hm:Small l) (hE:Env w) :
 Calls Tryz.prog 26 #[.agg #[dv],sv] w (a7x (P.scr l st) w):=by
 have hb0:Below w.heap.size w (w.alloc (.cells #[dv] 26)):=bZ.alloc lZ _
 have HU:=qh (hu.below hb0);have HST:=qh (hs.below hb0);have HB0:=qh hb0;have HE:=qh (hE.below hb0 hE.size)
 have HX:=qh (DBx.new dv 26 w)
 clear hb0
 obtain⟨ad,cap,rfl,_,_⟩:=hu
 obtain⟨sd,sc,rfl,_,_⟩:=hs
 go_enter Tryz.func26,Tryz.ntmps26
 go_wp2_with fail
 refine (d3g _ _ l st _ HU.o HST.o hm HE.o).mono ?_
 rintro e w1 ⟨rfl,hb⟩
 have HB1:=bt HB0 hb;have HST1:=qh (HST.o.below hb);have HU1:=qh (HU.o.below hb);have HX1:=qh (HX.o.below hb);have HE1:=qh (HE.o.below hb HE.o.size)
 clear hb
 obtain⟨q,hq⟩:∃q,(P.dic l&&P.a2z st)=q:=⟨_,rfl⟩
 have HQ:=qh hq
 rw [hq]
 clear hq
 cases q
 ·go_wp2;go_ret2;have h:P.scr l st=([],false):=by unfold P.scr;rw [HQ.o];rfl
  exact⟨by rw [h];rfl,HB1.o⟩
 ·have HD:=qh (show P.dic l=true∧P.a2z st=true by have h:=HQ.o;simpa only [Bool.and_eq_true] using h);have hl60:=P.a4q HD.o.2;obtain⟨k0,_⟩:=HX1.o
  go_wp2_with fail
  refine (d1y _ _ l st _ HU1.o HST1.o hl60).mono ?_;rintro e w2 ⟨u,rfl,hp,hb⟩;have HB2:=bt HB1 hb;have HP:=qh hp;have HST2:=qh (HST1.o.below hb);have HE2:=qh (HE1.o.below hb HE1.o.size);obtain⟨ua,uc,rfl,_,_⟩:=hp;clear hb
  go_wp2_with fail
  refine (d3y _ _ st (P.segA l st) _ HST2.o HP.o HD.o.2 (Nat.le_trans (P.b0z l st) hl60) (fun p hp=>P.b5u HD.o.1 hp) HE2.o).mono ?_;rintro e w3 ⟨rfl,hb3⟩;have HB3:=bt HB2 hb3;clear hb3;have HS:=qh (show P.scr l st=P.render (P.a1a st (P.segA l st)) by unfold P.scr;rw [HQ.o];rfl);go_wp2;go_ret2;exact⟨by rw [HS.o];rfl,HB3.o⟩
def d7h (x:P.Edit) (w:World) (e:Ending) (w':World):Prop:=e=.returned (.agg #[.int .i64 x.1,.string (S x.2)])∧Below w.heap.size w w'
theorem a7w (a b:Str) (w:World) (ha:a.length≤2^30) (hb:b.length≤2^30) :
 Calls Tryz.prog 208 #[.string (S a),.string (S b)] w (d7h (P.least a b) w):=by
 go_enter Tryz.func208,Tryz.ntmps208
 go_wp2
 go_loopw [5] (fun i wr=>∃j:Nat,j≤a.length∧j≤b.length∧i=.int .i64 j∧a.take j=b.take j∧∃n,wr=(w.alloc (.cells #[.int .i64 0,.string (S [])] 55)).drewN n) (fun i _=>a.length-(intOf i).toNat)
 case atStart=>exact⟨0,Nat.zero_le _,Nat.zero_le _,rfl,rfl,0,rfl⟩
 case round=>
  obtain⟨j,hj,hk,rfl,hpre,n,rfl⟩:=hrel;have HPRE:=qh hpre;have HSB:=qh (show (a.length-j:Nat)=(a.length:Int)-(j:Int) by omega);clear hpre
  by_cases h1:j<a.length
  ·have i1:(j:Int)<(a.length:Int):=by omega
   by_cases h2:j<b.length
   ·have i2:(j:Int)<(b.length:Int):=by omega
    by_cases h3:a[j]=b[j]
    ·exact zq79
    ·have f3:((((a[j]'h1).toNat:Nat):Int)==(((b[j]'h2).toNat:Nat):Int))=false:=by
      rw [beq_eq_false_iff_ne];intro h;exact h3 (UInt8.toNat_inj.1 oZ)
     have HL:=qh (P.b5h j a b HPRE.o oZ oZ (.inr (.inr ⟨h1,h2,h3⟩)));exact zq41
   ·have i2:¬(j:Int)<(b.length:Int):=by omega
    have HL:=qh (P.b5h j a b HPRE.o oZ oZ (.inr (.inl oZ)));exact zq41
  ·have i1:¬(j:Int)<(a.length:Int):=by omega
   have HL:=qh (P.b5h j a b HPRE.o oZ oZ (.inl oZ));exact zq41
section
set_option maxHeartbeats 2000000
abbrev a0r (u:Value) (sc:Str):Value:=.agg #[u,.string (S sc)]
abbrev logV (d p:Str) (n:Int):Value:=.agg #[.string (S d),.string (S p),.int .i64 n]
abbrev a1e (u us:Value) (sc d p:Str) (n:Int):Value:=.agg #[u,us,.string (S sc),.string (S d),.string (S p),.int .i64 n]
theorem b9l (u v:Value) (l:List Int) (t:Str) (w:World) (hu:IntR w u l) (hv:IntR w v l) :
 Calls Tryz.prog 97 #[a0r u t,a0r v t] w fun e w'=>e=.returned (.bool true)∧Below w.heap.size w w':=by
 have hb0:Below w.heap.size w ((w.alloc (.cells #[u,.string (S t)] 35)).alloc (.cells #[v,.string (S t)] 35)):=
  ((Below.refl w.heap.size w).alloc lZ _).alloc sZ _
 have HU:=qh (hu.below hb0);have HV:=qh (hv.below hb0)
 have HB0:=qh hb0;clear hb0
 obtain⟨ad,cap,rfl,hla,_⟩:=hu
 obtain⟨bd,dap,rfl,_,_⟩:=hv
 go_enter Tryz.func97,Tryz.ntmps97
 go_wp2_with fail
 refine (d6r _ _ l _ HU.o HV.o).mono ?_
 rintro e w1 ⟨rfl,hb⟩
 have hz:w.heap.size+1<w1.heap.size:=by have:=hb.size;simp at this;omega
 obtain⟨hcc,hff⟩:=a4k hb
 have r1:w1.cell? ⟨w.heap.size,1,none⟩=some (.string (S t)):=by rw [hcc _ _ (by simp;omega)];go_simp
 have q1:w1.cell? ⟨w.heap.size+1,1,none⟩=some (.string (S t)):=by rw [hcc _ _ sZ];go_simp
 have HB1:=qh (HB0.o.trans (hb.mono (by simp;omega)))
 clear hb hcc hff HU HV HB0
 go_wp2
 first|go_quiet (fail)|skip
 go_wp2
 go_ret
 exact⟨rfl,by first|exact HB1.o|exact below_drewN HB1.o _⟩
theorem eqLog (d p:Str) (n:Int) (w:World) :
 Calls Tryz.prog 98 #[logV d p n,logV d p n] w fun e w'=>e=.returned (.bool true)∧Below w.heap.size w w':=by
 have HB0:=qh (show Below w.heap.size w ((w.alloc (.cells #[.string (S d),.string (S p),.int .i64 n] 28)).alloc (.cells #[.string (S d),.string (S p),.int .i64 n] 28)) from
  ((Below.refl w.heap.size w).alloc lZ _).alloc sZ _)
 go_enter Tryz.func98,Tryz.ntmps98
 go_wp2
 go_ret
 exact⟨rfl,HB0.o⟩
theorem b6c (u:Value) (l:List Int) (t:Str) (k:Int) (F:Blk) (w:World) (hu:Ints w F u l) (hk0:0≤k) (hk:k≤2^40) :
 Calls Tryz.prog 100 #[a0r u t,.int .i64 k] w fun e w'=>e=.returned (.int .i64 (k+l.length))∧Ints w' F u (P.marks k l.length)∧Chg F w w':=by
 have HU:=qh (hu.below a0g ((Below.refl w.heap.size w).alloc lZ (.cells #[u,.string (S t)] 35)))
 have HC:=qh ((Chg.refl F w).alloc (.cells #[u,.string (S t)] 35))
 obtain⟨ad,cap,rfl,_,_⟩:=hu
 go_enter Tryz.func100,Tryz.ntmps100
 go_wp2_with fail
 refine (c5u _ l k F _ HU.o hk0 hk).mono ?_
 rintro e w1 ⟨rfl,hI,hc,_⟩
 have HI:=qh hI;have HC1:=qh (HC.o.trans hc)
 clear hI hc
 go_wp2
 go_ret
 exact⟨rfl,HI.o,HC1.o⟩
theorem b6d (u:Value) (n:Nat) (t:Str) (k:Int) (w:World) (hu:IntR w u (P.marks k n)) (hk0:0≤k) (hk:k≤2^40) (hn:n≤2^40) :
 Calls Tryz.prog 102 #[a0r u t,.int .i64 k] w fun e w'=>e=.returned (.int .i64 (k+n))∧Below w.heap.size w w':=by
 have hb0:=(Below.refl w.heap.size w).alloc lZ (.cells #[u,.string (S t)] 35)
 have HU:=qh (hu.below hb0);have HB0:=qh hb0;clear hb0
 obtain⟨ad,cap,rfl,_,_⟩:=hu
 go_enter Tryz.func102,Tryz.ntmps102
 go_wp2_with fail
 refine (c5e _ n k _ HU.o hk0 hk hn).mono ?_
 rintro e w1 ⟨rfl,rfl⟩
 have hn1:¬k+(n:Int)<0:=by omega
 go_wp2
 go_ret
 exact⟨rfl,HB0.o⟩
def SBox (b:Nat) (u us:Value) (sc d p:Str) (n:Int) (v:World):Prop:=
 v.cell? ⟨b,0,none⟩=some u∧v.cell? ⟨b,1,none⟩=some us∧v.cell? ⟨b,2,none⟩=some (.string (S sc))∧v.cell? ⟨b,3,none⟩=some (.string (S d))∧v.cell? ⟨b,4,none⟩=some (.string (S p))∧v.cell? ⟨b,5,none⟩=some (.int .i64 n)∧b<v.heap.size
theorem SBox.a0e {b:Nat} {u us:Value} {sc d p:Str} {n:Int} {v v':World} {X:Blk} (h:SBox b u us sc d p n v) (hc:Chg X v v') (hX:¬X b):SBox b u us sc d p n v':=by
 obtain⟨h0,h1,h2,h3,h4,h5,h6⟩:=h;exact⟨(hc.cell (p:=⟨b,0,none⟩) h6 hX).trans h0,(hc.cell (p:=⟨b,1,none⟩) h6 hX).trans h1,(hc.cell (p:=⟨b,2,none⟩) h6 hX).trans h2,(hc.cell (p:=⟨b,3,none⟩) h6 hX).trans h3,(hc.cell (p:=⟨b,4,none⟩) h6 hX).trans h4,(hc.cell (p:=⟨b,5,none⟩) h6 hX).trans h5,Nat.lt_of_lt_of_le h6 hc.size⟩
theorem SBox.below {b:Nat} {u us:Value} {sc d p:Str} {n:Int} {v v':World} (h:SBox b u us sc d p n v) (hb:Below v.heap.size v v'):SBox b u us sc d p n v':=
 h.a0e (Below.chg hb fun _=>False) fun h=>h
abbrev a0d (u us:Value) (sc d p:Str) (n:Int):Obj:=.cells #[u,us,.string (S sc),.string (S d),.string (S p),.int .i64 n] 37
theorem SBox.new (u us:Value) (sc d p:Str) (n:Int) (v:World):SBox v.heap.size u us sc d p n (v.alloc (a0d u us sc d p n)):=by
 refine⟨?_,?_,?_,?_,?_,?_,by simp⟩<;>go_simp
theorem b0e (u v us vs:Value) (l:P.Dic) (ks:List Int) (sc d p:Str) (n:Int) (w:World) (hu:EntR w u l) (hv:EntR w v l) (hus:IntR w us ks) (hvs:IntR w vs ks) :
 Calls Tryz.prog 36 #[a1e u us sc d p n,a1e v vs sc d p n] w fun e w'=>e=.returned (.bool true)∧Below w.heap.size w w':=by
 have hb1:Below w.heap.size w (w.alloc (a0d u us sc d p n)):=(Below.refl w.heap.size w).alloc lZ _
 have hb0:Below w.heap.size w ((w.alloc (a0d u us sc d p n)).alloc (a0d v vs sc d p n)):=hb1.alloc sZ _
 have B1:=qh ((SBox.new u us sc d p n w).below (bZ.alloc lZ (a0d v vs sc d p n)))
 have B2:=qh (show SBox (w.heap.size+1) v vs sc d p n ((w.alloc (a0d u us sc d p n)).alloc (a0d v vs sc d p n)) by have:=SBox.new v vs sc d p n (w.alloc (a0d u us sc d p n));simpa using this)
 have HU:=qh (hu.below hb0);have HV:=qh (hv.below hb0);have HUS:=qh (hus.below hb0);have HVS:=qh (hvs.below hb0)
 have HB0:=qh hb0;clear hb0 hb1
 obtain⟨ad,cap,rfl,_,_⟩:=hu
 obtain⟨bd,dap,rfl,_,_⟩:=hv
 obtain⟨sd,sap,rfl,_,_⟩:=hus
 obtain⟨td,tap,rfl,_,_⟩:=hvs
 go_enter Tryz.func36,Tryz.ntmps36
 go_wp2_with fail
 refine (c1q _ _ l _ HU.o HV.o).mono ?_
 rintro e w1 ⟨rfl,hb⟩
 have B11:=qh (B1.o.below hb);have B21:=qh (B2.o.below hb)
 have HUS1:=qh (HUS.o.below hb);have HVS1:=qh (HVS.o.below hb)
 have HB1:=qh (HB0.o.trans (hb.mono (by simp;omega)))
 clear hb HU HV HB0 B1 B2 HUS HVS
 obtain⟨_,a1,a2,a3,a4,a5,a6⟩:=B11.o
 obtain⟨_,b1,b2,b3,b4,b5,b6⟩:=B21.o
 go_wp2_with fail
 refine (b9l _ _ ks sc _ HUS1.o HVS1.o).mono ?_
 rintro e w2 ⟨rfl,hb⟩
 have B12:=qh (B11.o.below hb);have B22:=qh (B21.o.below hb)
 have HB2:=bt HB1 hb
 clear hb HB1 B11 B21 HUS1 HVS1 a1 a2 a3 a4 a5 b1 b2 b3 b4 b5
 obtain⟨_,_,_,a3,a4,a5,_⟩:=B12.o
 obtain⟨_,_,_,b3,b4,b5,_⟩:=B22.o
 go_wp2_with fail
 refine (eqLog d p n _).mono ?_
 rintro e w3 ⟨rfl,hb⟩
 have HB3:=bt HB2 hb
 clear hb HB2
 go_wp2
 go_ret
 exact⟨rfl,HB3.o⟩
theorem b3r (u us:Value) (l:P.Dic) (ks:List Int) (sc d p:Str) (n k:Int) (F G:Blk) (w:World) (hu:Ents w F u l) (hus:Ints w G us ks) (hF:∀b,F b→b<w.heap.size) (hG:∀b,G b→b<w.heap.size) (hFG:∀b,F b→G b→False) (hk0:0≤k) (hk:P.kAt k l≤2^40) :
 Calls Tryz.prog 37 #[a1e u us sc d p n,.int .i64 k] w fun e w'=>e=.returned (.int .i64 (P.kAt k l+ks.length))∧Ents w' F u (P.a4i k l)∧Ints w' G us (P.marks (P.kAt k l) ks.length)∧Chg (fun b=>F b∨G b) w w':=by
 have hb0:=(Below.refl w.heap.size w).alloc lZ (a0d u us sc d p n)
 have HU:=qh (hu.below a0b hb0);have HUS:=qh (hus.below a0g hb0)
 have HC0:=qh (Below.chg hb0 fun b=>F b∨G b)
 have HBX:=qh (SBox.new u us sc d p n w)
 have HF:=qh hF;have HG:=qh hG;have HFG:=qh hFG
 obtain⟨ad,cap,rfl,_,_⟩:=hu
 obtain⟨sd,sap,rfl,hks,_⟩:=hus
 clear hb0 hF hG hFG
 have hg:=P.a8x k l
 have HKG:=qh (show 0≤P.kAt k l by omega);clear hg
 go_enter Tryz.func37,Tryz.ntmps37
 go_wp2_with fail
 refine (b6j _ l k F _ HU.o hk0 hk).mono ?_
 rintro e w1 ⟨rfl,hI,hc⟩
 have HI:=qh hI
 have HB1:=qh (HBX.o.a0e hc fun h=>Nat.lt_irrefl _ (HF.o _ h))
 have HUS1:=qh (HUS.o.a0e a0g hc fun b h1 h2=>HFG.o b h2 h1)
 have HC1:=qh (HC0.o.trans (hc.mono (F':=fun b=>F b∨G b) fun b _ h=>.inl h))
 clear hI hc HC0 HBX HU HUS
 obtain⟨_,a1,a2,_⟩:=HB1.o
 go_wp2_with fail
 refine (b6c _ ks sc (P.kAt k l) G _ HUS1.o HKG.o hk).mono ?_
 rintro e w2 ⟨rfl,hJ,hc⟩
 have HJ:=qh hJ
 have HI2:=qh (HI.o.a0e a0b hc fun b h1 h2=>HFG.o b h1 h2)
 have HC2:=qh (HC1.o.trans (hc.mono (F':=fun b=>F b∨G b) fun b _ h=>.inr h))
 clear hJ hc HC1 HI HB1 a1 a2 HUS1
 go_wp2
 go_ret
 exact⟨rfl,HI2.o,HJ.o,HC2.o⟩
theorem b4d (u us:Value) (l:P.Dic) (m:Nat) (sc d p:Str) (n k:Int) (w:World) (hu:EntR w u (P.a4i k l)) (hus:IntR w us (P.marks (P.kAt k l) m)) (hm:m≤2^40) (hk0:0≤k) (hk:P.kAt k l≤2^40) :
 Calls Tryz.prog 38 #[a1e u us sc d p n,.int .i64 k] w fun e w'=>e=.returned (.int .i64 (P.kAt k l+m))∧Below w.heap.size w w':=by
 have hb0:=(Below.refl w.heap.size w).alloc lZ (a0d u us sc d p n)
 have HU:=qh (hu.below hb0);have HUS:=qh (hus.below hb0)
 have HB0:=qh hb0
 have HBX:=qh (SBox.new u us sc d p n w)
 obtain⟨ad,cap,rfl,_,_⟩:=hu
 obtain⟨sd,sap,rfl,_,_⟩:=hus
 clear hb0
 have hg:=P.a8x k l
 have HKG:=qh (show 0≤P.kAt k l by omega);clear hg
 go_enter Tryz.func38,Tryz.ntmps38
 go_wp2_with fail
 refine (b6e _ l k _ HU.o hk0 hk).mono ?_
 rintro e w1 ⟨rfl,hb⟩
 have HB1:=qh (HBX.o.below hb)
 have HUS1:=qh (HUS.o.below hb)
 have HBW:=qh (HB0.o.trans (hb.mono sZ))
 clear hb HBX HU HUS HB0
 obtain⟨_,a1,a2,_⟩:=HB1.o
 have h0:=HKG.o
 have hn0:¬P.kAt k l<0:=by omega
 go_wp2_with fail
 refine (b6d _ m sc (P.kAt k l) _ HUS1.o HKG.o hk hm).mono ?_
 rintro e w2 ⟨rfl,hb⟩
 have HBW2:=bt HBW hb
 have hn1:¬P.kAt k l+(m:Int)<0:=by omega
 clear hb HB1 a1 a2 HUS1 HBW
 go_wp2
 go_ret
 exact⟨rfl,HBW2.o⟩
end
section
set_option maxHeartbeats 2000000
end
end Go.Proofs.YtggfdnopminemaaGreatDoor

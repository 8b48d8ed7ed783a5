/- Walk: what is left. -/
import Derived.Test.YtggfdnopminemaaGreatDoorSesV
set_option linter.all false
namespace Go.Proofs.YtggfdnopminemaaGreatDoor.L
open Go.Proofs.Tryz
open Go Go.RowKit
set_option maxHeartbeats 8000000
set_option maxRecDepth 100000
theorem c1h (d p:Str) (n keep:Int) (t:Bool) (w:World) (hd:d.length<=2^20) (hp:p.length<=2^20) (hE:Env w) :
 Cz 20 #[logV d p n,.int .i64 keep,.bool t] w λe w'=>e=.returned (.tuple #[.string (S (P.a8r d p n keep t).1),.bool (P.a8r d p n keep t).2])/\Bl w w':=by
 have HE:=qh hE;clear hE
 cases h1:P.a1t d p n
 .have HF:=qh (show P.a8r d p n keep t=([],false) by unfold P.a8r;rw [h1];rfl)
  go_enter func20,ntmps20
  go_wp2_with fail
  refine (a3t _ _ _ _ hd hp (HE.o.alloc _)).mono ?_;rintro e w1 ⟨rfl,hb⟩;rw [h1];go_wp2;go_ret2;exact⟨by rw [HF.o];rfl,(bZ.alloc lZ _).trans (hb.mono sZ)⟩
 .cases h2:decide (0<=keep/\keep<=(p.length:Int))
  .have HF:=qh (show P.a8r d p n keep t=([],false) by unfold P.a8r;rw [h1,h2];rfl)
   go_enter func20,ntmps20
   go_wp2_with fail
   refine (a3t _ _ _ _ hd hp (HE.o.alloc _)).mono ?_;rintro e w1 ⟨rfl,hb⟩;rw [h1];obtain⟨hcc,hff⟩:=a6a hb;have HB:=qh hb;clear hb
   go_wp2_with (go_at_call 74;refine (a1x _ _ _ _).mono ?_;rintro e w' ⟨rfl,rfl⟩;rw [h2])
   exact e3j
  .have hk:=of_decide_eq_true h2;obtain⟨hk0,hk1⟩:=hk;obtain⟨l,hl⟩:∃l,l=d++p.take keep.toNat:=⟨_,rfl⟩;have hll:l.length=d.length+keep.toNat:=by rw [hl];simp;omega
   have HLL:=qh hll;have hl1:l.length<=2^21:=by omega
   clear hll;have HL:=qh hl;clear hl
   have hF:P.a8r d p n keep t=(if t&&decide (0<keep) then l.set (l.length-1) (255-l[l.length-1]?.getD 0) else l,true):=by
    unfold P.a8r;rw [h1,h2,<-HL.o];rfl
   have HF0:=qh hF;clear hF;have f1:¬9223372036854775807<d.length+keep.toNat:=by omega
   go_enter func20,ntmps20;go_wp2_with fail;refine (a3t _ _ _ _ hd hp (HE.o.alloc _)).mono ?_;rintro e w1 ⟨rfl,hb⟩;rw [h1];obtain⟨hcc,hff⟩:=a6a hb;have hz:=c5a hb;have hc0:w1.cell? ⟨w.heap.size,0,none⟩=some (.string (S d)):=by rw [hcc _ _ sZ];go_simp
   have hc1:w1.cell? ⟨w.heap.size,1,none⟩=some (.string (S p)):=by rw [hcc _ _ sZ];go_simp
   have HB:=qh ((bZ.alloc lZ _).trans (hb.mono sZ:Below w.heap.size _ w1));clear hb hcc hff;go_wp2_with (go_at_call 74;refine (a1x _ _ _ _).mono ?_;rintro e w' ⟨rfl,rfl⟩;rw [h2]);obtain⟨cap,w3,hconv,hcell,hfz,hb3,hz3⟩:=b9t l w1.drew;rw [HL.o]at hconv;have hc0':w3.cell? ⟨w.heap.size,0,none⟩=some (.string (S d)):=(hb3.cell (p:=⟨w.heap.size,0,none⟩) hz).trans hc0;have hc1':w3.cell? ⟨w.heap.size,1,none⟩=some (.string (S p)):=(hb3.cell (p:=⟨w.heap.size,1,none⟩) hz).trans hc1;have HB3:=qh hb3;clear hb3;refine wp_region_held_drew (S:=λv:World=>v.cell? ⟨w.heap.size,0,none⟩=some (.string (S d))/\v.cell? ⟨w.heap.size,1,none⟩=some (.string (S p))) kZ ⟨hc0,hc1⟩ (λhS0=>?_);refine zm39 ?_;intro K hK;rw [<-HL.o]at hconv⊢;go_simp;refine hK.out _ _ ⟨hc0',hc1'⟩ (λhS1=>?_);clear hK K;refine zm0 ?_;refine tk3 8 hS1 ?_;refine wpAnyH_done kZ ?_ _;have hcell':∀(j:Nat) (h:j<l.length),w3.cell? ⟨w1.heap.size,j,none⟩=some (.int .u8 l[j].toNat):=hcell;have hfz':∀(j:Nat),j<l.length->w3.frozen? ⟨w1.heap.size,j,none⟩=false:=hfz;have HBB:=qh (HB.o.drew.trans ((HB3.o:Below w1.heap.size w1.drew w3).mono (Nat.le_of_lt hz)));have hz3':w1.heap.size<w3.heap.size:=hz3;clear hS0 hS1 hcell hfz hconv HB HB3 f1 hz3;by_cases h3:t=true/\0<keep
   .obtain⟨rfl,h3⟩:=h3;obtain⟨m,hm⟩:∃m:Nat,l.length=m+1:=⟨l.length-1,by have:=HLL.o;omega⟩;have hml:m<l.length:=by omega
    have HM:=qh hm;clear hm
    have HF:=qh (show P.a8r d p n keep true=(l.set m (255-l[m]),true) by
     have hm1:l.length-1=m:=by have:=HM.o;omega
     rw [HF0.o,decide_eq_true h3,hm1,List.getElem?_eq_getElem hml];rfl)
    have hcm:=hcell' m hml;have hfm:=hfz' m hml;have hcl:((l[m].toNat:Nat):Int)<256:=by have:=l[m].toNat_lt;omega
    have i2:(l.length:Int)-1=(m:Int):=by have:=HM.o;omega
    have hback:=run_convert_bytes_back (P:=Tryz.prog) (w3.setCell ⟨w1.heap.size,m,none⟩ (.int .u8 (255-(l[m].toNat:Int)))) 22 9 5 ⟨w1.heap.size,0,none⟩ cap (l.set m (255-l[m])) underlying22 underlying5 underlying9 (by
     intro j hj
     have hjl:j<l.length:=by simpa using hj
     rw [List.getElem_set,add0]
     by_cases e:m=j
     .subst e;rw [if_pos rfl,u8_neg];exact World.cell?_setCell_same _ _ _ hcm
     .rw [if_neg e];rw [World.cell?_setCell_other _ _ _ _ (by intro e';injection e';omega)];exact hcell' j hjl)
    rw [List.length_set]at hback;clear hcell' hfz' hc0 hc1;go_wp2;go_ret2;exact⟨by rw [HF.o];rfl,HBB.o.setCell (by show w.heap.size<=w1.heap.size;omega) _⟩
   .have hd3:(t&&decide (0<keep))=false:=by
     rw [Bool.and_eq_false_iff,decide_eq_false_iff_not]
     cases t
     .exact .inl rfl
     .exact .inr (λh=>h3 ⟨rfl,h⟩)
    have HF:=qh (show P.a8r d p n keep t=(l,true) by rw [HF0.o,hd3];rfl)
    cases t
    .exact zq105
    .have hk4:keep<=0:=by
      have:¬0<keep:=by simpa using hd3
      omega
     exact zq105
end Go.Proofs.YtggfdnopminemaaGreatDoor.L
namespace Go.Proofs.YtggfdnopminemaaGreatDoor.P
open Go.Proofs.Tryz
def appS (d p:Bs) (n:Int) (c r:Bs):Bs×Int×Int:=
 if !a0j d p n||!good c r then (p,n,1) else if n==60 then (p,n,2) else (p++line n.toNat c r,n+1,0)
def appI (d p:Bs) (n:Int) (c r:Bs):Bs×Int×Int:=
 if !a1t d p n||!vrec c r then (p,n,1) else if n==60 then (p,n,2) else (p++(encode n c r).1,n+1,0)
theorem a8f {d p:Bs} {n:Int} (h:a0j d p n=true):0<=n/\n<=60/\d.length+p.length<=30000:=by
 unfold a0j at h;simp only [Bool.and_eq_true,decide_eq_true_eq,beq_iff_eq]at h;have:=(a4o (d++p)).1;rw [a1s]at h;simp only at h;omega
theorem app_eq (d p:Bs) (n:Int) (c r:Bs):appI d p n c r=appS d p n c r:=by
 unfold appI appS;rw [a3y,a6y]
 cases h1:a0j d p n<;>cases h2:good c r<;>try rfl
 cases h3:(n==60)
 .obtain⟨h4,h5,_⟩:=a8f h1;obtain⟨m,rfl⟩:=Int.eq_ofNat_of_zero_le h4;have h6:((m:Nat):Int)≠60:=by simpa using h3
  have:=a8b (k:=m) oZ h2;simp only [Bool.not_true,Bool.or_self,Bool.false_eq_true,if_false,Int.toNat_natCast];rw [this]
 .rfl
end Go.Proofs.YtggfdnopminemaaGreatDoor.P
namespace Go.Proofs.YtggfdnopminemaaGreatDoor.L
open Go.Proofs.Tryz
open Go Go.RowKit
set_option maxHeartbeats 8000000
set_option maxRecDepth 100000
variable {n:Int} {c d p r:Str} {v w:Go.World}
def AB (w:World) (d p:Str) (n:Int) (c r:Str) (v:World):Prop:=
 (v.cell? ⟨w.heap.size,0,none⟩=some (.string (S d))/\v.cell? ⟨w.heap.size,1,none⟩=some (.string (S p))/\v.cell? ⟨w.heap.size,2,none⟩=some (.int .i64 n)) /\
 (v.cell? ⟨w.heap.size+1,0,none⟩=some (.string (S c))/\v.cell? ⟨w.heap.size+1,1,none⟩=some (.string (S r))) /\
 (v.cell? ⟨w.heap.size+1+1,0,none⟩=some (.string (S []))/\v.cell? ⟨w.heap.size+1+1,1,none⟩=some (.string (S []))/\v.cell? ⟨w.heap.size+1+1,2,none⟩=some (.int .i64 0)) /\
 (v.frozen? ⟨w.heap.size,0,none⟩=false/\v.frozen? ⟨w.heap.size,1,none⟩=false/\v.frozen? ⟨w.heap.size,2,none⟩=false) /\
 (v.frozen? ⟨w.heap.size+1+1,0,none⟩=false/\v.frozen? ⟨w.heap.size+1+1,1,none⟩=false/\v.frozen? ⟨w.heap.size+1+1,2,none⟩=false) /\
 w.heap.size+1+1<v.heap.size/\Env v/\Bl w v
theorem AB.start {t u:TypeId} (hE:Env w) :
 AB w d p n c r (((w.alloc (.cells #[.string (S d),.string (S p),.int .i64 n] t)).alloc (.cells #[.string (S c),.string (S r)] u)).alloc (.cells #[.string (S []),.string (S []),.int .i64 0] t)):=by
 refine⟨⟨?_,?_,?_⟩,⟨?_,?_⟩,⟨?_,?_,?_⟩,⟨?_,?_,?_⟩,⟨?_,?_,?_⟩,by simp,((hE.alloc _).alloc _).alloc _,((bZ.alloc lZ _).alloc sZ _).alloc (by simp;omega) _⟩<;>go_simp
theorem AB.carry {v':World} (h:AB w d p n c r v) (hb:Bl v v'):AB w d p n c r v':=by
 obtain⟨⟨a1,a2,a3⟩,⟨b1,b2⟩,⟨c1,c2,c3⟩,⟨d1,d2,d3⟩,⟨e1,e2,e3⟩,f,g,i⟩:=h;have hz0:w.heap.size<v.heap.size:=by omega
 have hz1:w.heap.size+1<v.heap.size:=by omega
 refine⟨⟨?_,?_,?_⟩,⟨?_,?_⟩,⟨?_,?_,?_⟩,⟨?_,?_,?_⟩,⟨?_,?_,?_⟩,Nat.lt_of_lt_of_le f hb.size,g.below hb g.size,i.trans (hb.mono oZ)⟩
 .exact (hb.cell (p:=⟨_,0,none⟩) hz0).trans a1
 .exact (hb.cell (p:=⟨_,1,none⟩) hz0).trans a2
 .exact (hb.cell (p:=⟨_,2,none⟩) hz0).trans a3
 .exact (hb.cell (p:=⟨_,0,none⟩) hz1).trans b1
 .exact (hb.cell (p:=⟨_,1,none⟩) hz1).trans b2
 .exact (hb.cell (p:=⟨_,0,none⟩) f).trans c1
 .exact (hb.cell (p:=⟨_,1,none⟩) f).trans c2
 .exact (hb.cell (p:=⟨_,2,none⟩) f).trans c3
 .exact (hb.frozen (p:=⟨_,0,none⟩) hz0).trans d1
 .exact (hb.frozen (p:=⟨_,1,none⟩) hz0).trans d2
 .exact (hb.frozen (p:=⟨_,2,none⟩) hz0).trans d3
 .exact (hb.frozen (p:=⟨_,0,none⟩) f).trans e1
 .exact (hb.frozen (p:=⟨_,1,none⟩) f).trans e2
 .exact (hb.frozen (p:=⟨_,2,none⟩) f).trans e3
theorem AB.env (h:AB w d p n c r v):Env v:=h.2.2.2.2.2.2.1
theorem AB.below (h:AB w d p n c r v):Bl w v:=h.2.2.2.2.2.2.2
theorem c8a (d p:Str) (n:Int) (c r:Str) (w:World) (hd:d.length<=2^20) (hp:p.length<=2^20) (hc:c.length<=2^20) (hr:r.length<=2^20) (hE:Env w) :
 Cz 72 #[logV d p n,.agg #[.string (S c),.string (S r)]] w λe w'=>e=.returned (.tuple #[logV d (P.appI d p n c r).1 (P.appI d p n c r).2.1,.int .i64 (P.appI d p n c r).2.2])/\Bl w w':=by
 have A1:=qh (AB.start (w:=w) (d:=d) (p:=p) (n:=n) (c:=c) (r:=r) (t:=28) (u:=86) hE)
 clear hE
 cases h1:P.a1t d p n
 .have HF:=qh (show P.appI d p n c r=(p,n,1) by unfold P.appI;rw [h1];rfl);go_enter func72,ntmps72;go_wp2_with fail;refine (a3t _ _ _ _ hd hp A1.o.env).mono ?_;rintro e w1 ⟨rfl,hb⟩;refine zn25 ?_;intro A2 a1 a2 a3 b1 b2 c1 c2 c3 d1 d2 d3 e1 e2 e3 hz;clear hb A1;go_wp2;refine bodyPost_ret (v:=.tuple #[logV d p n,.int .i64 1]) (by simp [results,results72,go_sem,c1,c2,c3]) rfl ⟨by rw [HF.o],?_⟩;exact ((A2.o.below.setCell (by simp;omega) _).setCell (by simp;omega) _).setCell (by simp;omega) _
 .cases h2:P.vrec c r
  .have HF:=qh (show P.appI d p n c r=(p,n,1) by unfold P.appI;rw [h1,h2];rfl);go_enter func72,ntmps72;go_wp2_with fail;refine (a3t _ _ _ _ hd hp A1.o.env).mono ?_;rintro e w1 ⟨rfl,hb⟩;refine zn25 ?_;intro A2 a1 a2 a3 b1 b2 c1 c2 c3 d1 d2 d3 e1 e2 e3 hz;clear hb A1;go_wp2_with fail;refine (a3h _ _ _ oZ oZ).mono ?_;rintro e w2 ⟨rfl,hb⟩;refine zn72 ?_;clear hb A2 a1 a2 a3 b1 b2 c1 c2 c3 d1 d2 d3 e1 e2 e3 hz;intro A3 a1 a2 a3 b1 b2 c1 c2 c3 d1 d2 d3 e1 e2 e3 hz;go_wp2;refine bodyPost_ret (v:=.tuple #[logV d p n,.int .i64 1]) (by simp [results,results72,go_sem,c1,c2,c3]) rfl ⟨by rw [HF.o],?_⟩;exact zq97
  .cases h3:(n==60)
   .have HF:=qh (show P.appI d p n c r=(p++(P.encode n c r).1,n+1,0) by unfold P.appI;rw [h1,h2,h3];rfl);have hn:=P.a8f (P.a3y d p n ▸ h1);obtain⟨hn0,hn1,_⟩:=hn;obtain⟨x,hx⟩:∃x,(P.encode n c r).1=x:=⟨_,rfl⟩;have HX:=qh hx
    have hxl:x.length<=10000:=by
     rw [<-hx];obtain⟨m,rfl⟩:=Int.eq_ofNat_of_zero_le hn0;have h6:((m:Nat):Int)≠60:=by simpa using h3
     rw [P.a8b (k:=m) oZ (P.a6y c r ▸ h2)];have:=(P.a5j (k:=m) oZ (P.a6y c r ▸ h2)).1
     show (P.line m c r).length<=10000
     omega
    clear hx;go_enter func72,ntmps72;go_wp2_with fail;refine (a3t _ _ _ _ hd hp A1.o.env).mono ?_;rintro e w1 ⟨rfl,hb⟩;refine zn25 ?_;intro A2 a1 a2 a3 b1 b2 c1 c2 c3 d1 d2 d3 e1 e2 e3 hz;clear hb A1;go_wp2_with fail;refine (a3h _ _ _ oZ oZ).mono ?_;rintro e w2 ⟨rfl,hb⟩;refine zn72 ?_;clear hb A2 a1 a2 a3 b1 b2 c1 c2 c3 d1 d2 d3 e1 e2 e3 hz;intro A3 a1 a2 a3 b1 b2 c1 c2 c3 d1 d2 d3 e1 e2 e3 hz;go_wp2_with fail;refine (b5d _ _ _ _ oZ oZ A3.o.env).mono ?_;rintro e w3 ⟨rfl,hb⟩;rw [HX.o];have A4:=qh (A3.o.carry hb);clear hb A3;clear a1 a2 a3 b1 b2 c1 c2 c3 d1 d2 d3 e1 e2 e3 hz;obtain⟨⟨a1,a2,a3⟩,⟨b1,b2⟩,⟨c1,c2,c3⟩,⟨d1,d2,d3⟩,⟨e1,e2,e3⟩,hz,_⟩:=A4.o;have f1:¬9223372036854775807<p.length+x.length:=by omega
    go_wp2;refine bodyPost_ret (v:=.tuple #[logV d (p++x) (n+1),.int .i64 0]) (by simp [results,results72,go_sem,c1,c2,c3]) rfl ⟨by rw [HF.o,HX.o],?_⟩;exact ((A4.o.below.setCell (by simp;omega) _).setCell (by simp;omega) _).setCell (by simp;omega) _
   .have HF:=qh (show P.appI d p n c r=(p,n,2) by unfold P.appI;rw [h1,h2,h3];rfl);go_enter func72,ntmps72;go_wp2_with fail;refine (a3t _ _ _ _ hd hp A1.o.env).mono ?_;rintro e w1 ⟨rfl,hb⟩;refine zn25 ?_;intro A2 a1 a2 a3 b1 b2 c1 c2 c3 d1 d2 d3 e1 e2 e3 hz;clear hb A1;go_wp2_with fail;refine (a3h _ _ _ oZ oZ).mono ?_;rintro e w2 ⟨rfl,hb⟩;refine zn72 ?_;clear hb A2 a1 a2 a3 b1 b2 c1 c2 c3 d1 d2 d3 e1 e2 e3 hz;intro A3 a1 a2 a3 b1 b2 c1 c2 c3 d1 d2 d3 e1 e2 e3 hz;go_wp2;refine bodyPost_ret (v:=.tuple #[logV d p n,.int .i64 2]) (by simp [results,results72,go_sem,c1,c2,c3]) rfl ⟨by rw [HF.o],?_⟩;exact zq97
end Go.Proofs.YtggfdnopminemaaGreatDoor.L
namespace Go.Proofs.YtggfdnopminemaaGreatDoor.P
open Go.Proofs.Tryz
variable {y:Bs} {d:Dic} {l:List Int}
def fmtE (e:Edit):Bs:=45::(num e.1.toNat++43::e.2)
abbrev Ses:=Dic×Tr
abbrev Ans:=Ses×Option Bs
def optB (r:Bs×Bool):Option Bs:=if r.2 then some r.1 else none
def b1f (d:Dic):Tr->List Int->Option Tr
 |t,[]=>some t
 |t,k::r=>if (a6q d t k).2 then b1f d (a6q d t k).1.1 r else none
def typed (s:Ses) (l:List Int):Ans:=match b1f s.1 s.2 l with
 |none=>(s,none)
 |some t=>((s.1,t),some (fmtE (least s.2.2 t.2)))
def b0r (s:Ses) (o:List Int):Bs×Bool:=scr (kept (a4f o s.1) (del o s.1)) s.2.1
def a2x (s:Ses) (o:List Int):Ans:=if a4f o s.1&&(b0r s o).2 then ((kept (a4f o s.1) (del o s.1),(s.2.1,(b0r s o).1)),some (fmtE (least s.2.2 (b0r s o).1))) else (s,none)
def d4z:Bs:=[112,114,101,115,115]
def d1x:Bs:=[116,121,112,101]
def b4e:Bs:=[100,101,108,101,116,101]
def c6d:Bs:=[108,111,111,107,117,112]
def c7q:Bs:=[100,101,102,105,110,101]
def c1g:Bs:=[114,101,118,101,114,115,101]
def e3r:Bs:=[106,111,105,110]
def d7z:Bs:=[108,111,111,115,101]
def e4z:Bs:=[117,110,100,111]
def c7f:Bs:=[115,99,114,101,101,110]
def d5w:Bs:=[99,111,117,110,116]
def c7s:Bs:=[112,105,101,99,101,115]
def wNone:Bs:=[110,111,110,101]
def e3q:Bs:=[108,111,110,103]
def wNo:Bs:=[110,111]
def wBad:Bs:=[98,97,100]
def e5c:Bs:=[102,117,108,108]
def outl (s:Ses) (word:Bs) (o:List Int):Ans:=if word=d1x then typed s o else if word=b4e then a2x s o else (s,optB (b5g o s.1))
def a6b (s:Ses) (word more:Bs):Ans:=match a1u more with
 |none=>(s,none)
 |some o=>outl s word o
def a2e (t:Bs) (l:Dic):List (List Int):=(l.filter λe=>e.2==t).map (·.1)
def revT (d:Dic) (t:Bs):Bs:=if a2e t d=[] then wNone else Go.Lib.join ((a2e t d).map λo=>(fmtS 47 o).map hash) [32]
def a4r (d:Dic) (more:Bs):Option Bs:=if (a0o more).2 then some (revT d more) else none
def a1h (s:Ses) (more:Bs):Ans:=match a1u (head 32 more) with
 |none=>(s,none)
 |some o=>if (head 32 more).length=more.length then (s,none) else
  if (a3j s.1 s.2 (o,more.drop ((head 32 more).length+1))).2 then
   ((a3j s.1 s.2 (o,more.drop ((head 32 more).length+1))).1.1,some (fmtE (a3j s.1 s.2 (o,more.drop ((head 32 more).length+1))).1.2)) else (s,none)
def a0u (more:Bs):Option Bs:=match split 32 more with
 |[a,b]=>optB (a2f a b)
 |_=>none
def b6s (more:Bs):Option Bs:=if (loose more).2 then some (fmt ((loose more).1:Int)) else none
def blank (l:List Pc):Nat:=(l.filter λp=>p.2==[]).length
def alone (s:Ses) (word:Bs):Ans:=
 if word=e4z then typed s [1024] else if word=c7f then (s,some s.2.2) else if word=d5w then (s,some (num s.2.1.length))
 else if word=c7s then (s,some ((num (segA s.1 s.2.1).length++[32])++num (blank (segA s.1 s.2.1)))) else (s,none)
def a5w (s:Ses) (more:Bs):Ans:=if (parse more).2 then typed s [((parse more).1:Int)] else (s,none)
def args (s:Ses) (word more:Bs):Ans:=
 if word=d4z then a5w s more else if word=d1x\/word=b4e\/word=c6d then a6b s word more
 else if word=c7q then a1h s more else if word=c1g then (s,a4r s.1 more)
 else if word=e3r then (s,a0u more) else if word=d7z then (s,b6s more) else (s,none)
def cmd (s:Ses) (line:Bs):Ans:=if (head 32 line).length=line.length then alone s (head 32 line) else args s (head 32 line) (line.drop ((head 32 line).length+1))
def a2s (o:Option Bs):Bs:=match o with
 |none=>[63]
 |some r=>if 200<r.length then e3q else r
abbrev LogT:=Bs×Bs×Int
def b0w (g:LogT) (c r:Bs):LogT:=(g.1,(appS g.1 g.2.1 g.2.2 c r).1,(appS g.1 g.2.1 g.2.2 c r).2.1)
def b0k (s:Ses) (g:LogT):Bool:=sess s.1 s.2.1 s.2.2 g.1 g.2.1 g.2.2
def exec (s:Ses) (g:LogT) (line:Bs):(Ses×LogT)×Bs:=
 if !b0k s g then ((s,g),wNo) else if !good line [] then ((s,g),wBad) else if g.2.2=60 then ((s,g),e5c)
 else (((cmd s line).1,b0w g line (a2s (cmd s line).2)),a2s (cmd s line).2)
/-! ### cut and split -/
theorem d9k (c:UInt8) (l:Bs) (h:c∉l):Go.Lib.cut l [c]=(l,[],false):=by
 unfold Go.Lib.cut;rw [b2s c l h];rfl
theorem b6x (c:UInt8) (l:Bs):(c∉l/\Go.Lib.cut l [c]=(l,[],false)/\head c l=l) \/
 ∃x y,l=x++c::y/\(∀b∈x,b≠c)/\Go.Lib.cut l [c]=(x,y,true)/\head c l=x/\l.drop ((head c l).length+1)=y/\(head c l).length<l.length:=by
 by_cases hm:c∈l
 .obtain⟨x,y,e,hx⟩:=a2k c l hm;refine .inr ⟨x,y,e,hx,by rw [e];exact b3y c x y hx,by rw [e];exact a8e c x y hx,?_,?_⟩
  .rw [e,a8e c x y hx,show x++c::y=(x++[c])++y by simp,show x.length+1=(x++[c]).length by simp,List.drop_left]
  .rw [e,a8e c x y hx];simp
 .exact .inl ⟨hm,d9k c l hm,by unfold head;rw [a5l c l hm];rfl⟩
theorem e3n (s:Ses) (line:Bs):cmd s line=if (Go.Lib.cut line [32]).2.2 then args s (Go.Lib.cut line [32]).1 (Go.Lib.cut line [32]).2.1 else alone s (Go.Lib.cut line [32]).1:=by
 unfold cmd
 rcases b6x 32 line with⟨_,h1,h2⟩|⟨x,y,_,_,h1,h2,h3,h4⟩
 .rw [h1,h2,if_pos rfl];rfl
 .rw [h1,if_neg oZ,h3,h2];rfl
theorem d2a (h:(32:UInt8)∈y):isWord y=false:=by
 unfold isWord
 have:y.all lower=false:=by
  rw [List.all_eq_false];exact⟨32,h,by decide⟩
 rw [this];rfl
theorem d0k {x:Bs} (h:isWord y=false):a2f x y=([],false):=by
 unfold a2f;rw [h,Bool.and_false];rfl
theorem d2f (more:Bs):optB (a2f (Go.Lib.cut more [32]).1 (Go.Lib.cut more [32]).2.1)=a0u more:=by
 unfold a0u
 rcases b6x 32 more with⟨h0,h1,h2⟩|⟨x,y,h0,hx,h1,_⟩
 .rw [h1,a5l 32 more h0]
  show optB (a2f more [])=none
  rw [d0k dZ];rfl
 .rw [h1,h0,a6u 32 y x hx]
  by_cases hy:(32:UInt8)∈y
  .obtain⟨a,b,e,ha⟩:=a2k 32 y hy
   show optB (a2f x y)=_
   rw [d0k (d2a hy),e,a6u 32 b a ha]
   cases hb:split 32 b with
   |nil=>exact absurd hb (a2y 32 b)
   |cons _ _=>rfl
  .rw [a5l 32 y hy]
theorem c7j (d:Dic) (t:Tr) (o:List Int):(a3j d t (o,[])).2=false:=by
 have:a4e (o,[]) d=false:=by
  unfold a4e entry;rw [show (a0o ([]:Bs)).2=false from by decide];simp
 rw [b2k (by rw [this];simp)]
theorem b1s (s:Ses) (more:Bs):a1h s more=match a1u (Go.Lib.cut more [32]).1 with
 |none=>(s,none)
 |some o=>if (a3j s.1 s.2 (o,(Go.Lib.cut more [32]).2.1)).2 then ((a3j s.1 s.2 (o,(Go.Lib.cut more [32]).2.1)).1.1,some (fmtE (a3j s.1 s.2 (o,(Go.Lib.cut more [32]).2.1)).1.2)) else (s,none):=by
 unfold a1h
 rcases b6x 32 more with⟨h0,h1,h2⟩|⟨x,y,h0,hx,h1,h2,h3,h4⟩
 .rw [h1,h2]
  cases a1u more with
  |none=>rfl
  |some o=>simp only [c7j];simp
 .rw [h1,h3]
  show _=match a1u x with
   |none=>(s,none)
   |some o=>if (a3j s.1 s.2 (o,y)).2 then ((a3j s.1 s.2 (o,y)).1.1,some (fmtE (a3j s.1 s.2 (o,y)).1.2)) else (s,none)
  rw [h2]at h4⊢
  cases a1u x with
  |none=>rfl
  |some o=>
   show (if x.length=more.length then _ else _)=_
   rw [if_neg oZ]
/-! ### what a command keeps -/
theorem c5p (h:(scr d l).2=true) (h2:l.contains 1024=false):trans d (l,(scr d l).1)=true:=by
 unfold trans;rw [h,h2];simp
theorem b7l:∀{l:List Int} {t t':Tr},trans d t=true->b1f d t l=some t'->trans d t'=true
 |[],t,t',h,e=>by injection e with e;subst e;exact h
 |k::l,t,t',h,e=>by
  unfold b1f at e
  split at e
  .rename_i hp;exact b7l (b1l hp) e
  .cases e
theorem a7p {s:Ses} (h:trans s.1 s.2=true):trans (typed s l).1.1 (typed s l).1.2=true:=by
 unfold typed
 cases hq:b1f s.1 s.2 l with
 |none=>exact h
 |some t=>exact b7l h hq
end Go.Proofs.YtggfdnopminemaaGreatDoor.P
namespace Go.Proofs.YtggfdnopminemaaGreatDoor
open Go.Proofs.Tryz
open Go Go.RowKit
set_option maxHeartbeats 8000000
set_option maxRecDepth 100000
theorem c0p (B:Nat) (u:Value) (l:List Str) (c:UInt8) (w:World) (h:a0x B w u l) (hl:l.length<=2^20) (hx:(Lib.join l [c]).length<=2^30) :
 Cz 185 #[u,.string (S [c])] w λe w'=>e=.returned (.string (S (Lib.join l [c])))/\Bl w w':=by
 cases l with
 |nil=>
  have hu:∃a cap,u=.slice a 0 cap:=by
   rcases h.2 with⟨rfl,_⟩|⟨g,cap,cur,rfl,_⟩
   .exact⟨_,_,rfl⟩
   .exact⟨_,_,rfl⟩
  obtain⟨a,cap,rfl⟩:=hu;refine (Tryz.strings_Join_none a cap (S [c]) w).mono ?_;rintro e w' ⟨rfl,rfl⟩;exact⟨rfl,Below.refl _ _⟩
 |cons x r=>
  rcases id h.2 with⟨_,h0⟩|⟨g,cap,cur,hv,hg,hh,hnc,_⟩
  .simp at h0
  .have hob:u.ownBlock=some g:=by rw [hv];rfl
   have hgl:=(World.ownsRow.lt h g hob).2
   have hj:=Tryz.strings_Join g 0 cap ((x::r).map S) (S [c]) w (by
    intro j y hy
    rw [List.getElem?_map]at hy
    cases hq:(x::r)[j]? with
    |none=>rw [hq]at hy;simp at hy
    |some z=>
     rw [hq]at hy;simp only [Option.map_some,Option.some.injEq]at hy;subst hy;have hc:=World.ownsRow.cells h hob j (.string (S z)) (by unfold a3z;rw [List.getElem?_map,hq];rfl);rw [add0]at hc;rw [Nat.zero_add];exact hc) hgl (by simp at hl⊢;omega) (by simpa using hnc) (by
    rw [List.map_map,S_dataList,show ((λx:ByteArray=>x.data.toList) ∘ S)=id from funext λz=>S_dataList z,List.map_id];omega)
   rw [List.length_map]at hj;rw [hv];refine hj.mono ?_;rintro e w' ⟨rfl,hb⟩;refine⟨?_,hb⟩;rw [List.map_map,S_dataList,show ((λx:ByteArray=>x.data.toList) ∘ S)=id from funext λz=>S_dataList z,List.map_id];rfl
theorem d2v (us:Value) (st:List Int) (w:World) (hus:IntR w us st) (hs:P.a3n st=true) :
 Cz 108 #[us] w λe w'=>e=.returned (.string (S (P.fmtS 47 st)))/\Bl w w':=by
 obtain⟨i0,hi,hz0,hz1,hz2⟩:=info_parts L.b2f
 have HUS:=qh hus;have HSL:=qh hs
 have hl60:=P.a4w hs
 obtain⟨sd,sap,rfl,_,_⟩:=hus
 clear hs
 go_enter func108,ntmps108
 have HOW:Hq (a0x w.heap.size (w.alloc (.cells #[] 9)) (.slice (some ⟨w.heap.size,0,none⟩) 0 0) []):=⟨by have h:=World.ownsRow_lit (base:=w.heap.size) (e:=9) (size:=1) w #[] 0 lZ (Nat.zero_le _) sZ;simpa [a0x,a3z] using h⟩
 have HB0:=qh ((Below.refl w.heap.size w).alloc lZ (.cells #[] 9))
 go_wp2
 go_loopw [3,11] (λv i wr=>∃k:Nat,k<=st.length/\i=.int .i64 k/\(∃ws,ws=(st.take k).map P.fmt/\a0x w.heap.size wr v ws)/\Bl w wr) (λ_ i _=>st.length-(intOf i).toNat)
 case atStart=>exact⟨0,Nat.zero_le _,rfl,⟨_,rfl,HOW.o⟩,HB0.o⟩
 case round=>
  obtain⟨k,hk,rfl,⟨ws,hws,hown⟩,hbel⟩:=hrel;have HOWN:=qh hown;have HBEL:=qh hbel;have HWS:=qh hws;have hsz:=HBEL.o.size;clear hown hbel hws HOW HB0
  by_cases hlt:k<st.length
  .obtain⟨m,hm,hms,hmd⟩:=P.a9z HSL.o hlt;have HMS:=qh hms;obtain⟨g,o,hga,hgl,c0⟩:=(HUS.o.below HBEL.o).at k hlt;subst hga;rw [hm]at c0;have HSN:Hq (ws++[P.fmt (m:Int)]=(st.take (k+1)).map P.fmt):=⟨by rw [HWS.o,a0g st k hlt,hm,List.map_append];rfl⟩;have i1:(k:Int)<(st.length:Int):=by omega
   clear hm hmd hms
   go_wp2_with fail
   refine (a3i m _ HMS.o).mono ?_;rintro e w1 ⟨rfl,hb⟩;have HO1:Hq (a0x w.heap.size w1 _ ws):=⟨a0i HOWN.o hb lZ⟩;have HB1:=qh (HBEL.o.trans (hb.mono hsz));have hsz1:w.heap.size<=w1.heap.size:=HB1.o.size;have hlm:ws.length<=60:=by rw [HWS.o,List.length_map,List.length_take];omega
   clear hb c0 hgl HOWN HBEL
   go_wp2_with (at_builtin;refine wpList_append_own _ rfl _ _ 43 rfl w.heap.size 9 i0 (.string ⟨#[]⟩) 1 16 underlying43 hi hz0 hz1 hz2 rfl dZ _ _ _ rfl (HO1.o.alloc _) ⟨w1.heap.size,0,none⟩ 1 1 [.string (S (P.fmt (m:Int)))] rfl rfl ?c1 ?c2 ?c3 ?c4 ?c5 ?_)
   case c1=>intro j u hj;match j,hj with|0,hj=>(simp at hj;subst hj;simp [Addr.add])
   case c2=>intro u hu;simp at hu;subst hu;rfl
   case c3=>unfold maxLen;omega
   case c4=>omega
   case c5=>simp;omega
   intro v' w2 hown' hgrow _;have R:=qh (L.b3j hsz1 HO1.o HB1.o hown' hgrow);clear hown' hgrow HO1 HB1;go_wp2
   go_roundw
   case rel=>
    repeat apply Exists.intro
    refine⟨?_,rfl⟩;exact⟨k+1,by omega,by go_num,⟨_,HSN.o,R.o.1⟩,R.o.2⟩
   case measure=>exact zq
  .have hkl:k=st.length:=by omega
   subst hkl;have HO1:Hq (a0x w.heap.size wr _ (st.map P.fmt)):=⟨by have h:=HOWN.o;rw [HWS.o,List.take_length]at h;exact h⟩;have HBL:=qh HBEL.o;have hjl:=P.a5h 47 st;clear HOWN HBEL
   go_wp2_with fail
   refine (c0p w.heap.size _ (st.map P.fmt) 47 _ HO1.o (by rw [List.length_map];omega) (by unfold P.fmtS at hjl;omega)).mono ?_;rintro e w1 ⟨rfl,hb⟩;have HB1:=qh (HBL.o.trans (hb.mono hsz));clear hb;go_wp2;go_ret;exact⟨rfl,HB1.o⟩
namespace P
theorem b8v (l:List Pc) (x:Pc):blank (l++[x])=if x.2=[] then blank l+1 else blank l:=by
 unfold blank;rw [List.filter_append,List.length_append]
 by_cases h:x.2=[]
 .rw [if_pos h,List.filter_cons_of_pos (by simp [h])];rfl
 .rw [if_neg h,List.filter_cons_of_neg (by simp [h])];rfl
theorem b5o (l:List Pc):blank l<=l.length:=List.length_filter_le _ _
theorem b3h {o:List Int} (h:a0k o=true):a3n o=true:=by
 unfold a0k at h;unfold a3n;simp only [Bool.and_eq_true,decide_eq_true_eq]at h⊢;exact⟨by omega,h.2⟩
end P
theorem d1k (u:Value) (l:List P.Pc) (w:World) (hu:PcR w u l) :
 Cz 231 #[u] w λe w'=>e=.returned (.int .i64 (P.blank l:Int))/\w=w':=by
 have HU:=qh hu
 obtain⟨ad,cap,rfl,hl,_⟩:=hu
 go_enter func231,ntmps231
 go_wp2
 go_loop [3,4] (λc i=>∃k:Nat,k<=l.length/\i=.int .i64 k/\c=.int .i64 (P.blank (l.take k):Int)) (λ_ i=>l.length-(intOf i).toNat)
 case atStart=>exact⟨0,Nat.zero_le _,rfl,rfl⟩
 case round=>
  obtain⟨k,hk,rfl,rfl⟩:=hrel
  by_cases hlt:k<l.length
  .obtain⟨g,o,hga,hgl,c0,c1,c2⟩:=HU.o.at k hlt;subst hga;have i1:(k:Int)<(l.length:Int):=by omega
   have HS:Hq (P.blank (l.take (k+1))=if l[k].2=[] then P.blank (l.take k)+1 else P.blank (l.take k)):=⟨by rw [a0g l k hlt,P.b8v]⟩;have hbl:=P.b5o (l.take k);have hbk:P.blank (l.take k)<=k:=by rw [List.length_take]at hbl;omega
   clear hbl;generalize P.blank (l.take k)=bk at *
   by_cases he:l[k].2=[]
   .rw [he]at c2;have HS2:=qh (HS.o.trans (if_pos he));clear HS he;go_wp2
    go_round
    case rel=>exact⟨k+1,by omega,by go_num,by rw [HS2.o];go_num⟩
    case measure=>exact zq
   .have f1:(l[k].2==[])=false:=by simpa using he
    have HS2:=qh (HS.o.trans (if_neg he));clear HS;generalize l[k].2=tx at *;go_wp2
    go_round
    case rel=>exact⟨k+1,by omega,by go_num,by rw [HS2.o]⟩
    case measure=>exact zq
  .have hkl:k=l.length:=by omega
   subst hkl;have HTL:=qh (List.take_length (l:=l))
   try rw [HTL.o]
   go_wp2;go_ret;exact⟨rfl,rfl⟩
theorem count_one (p:P.Pc) (w:World) :
 Cz 218 #[.agg #[.int .i64 p.1.1,.int .i64 p.1.2,.string (S p.2)]] w λe w'=>e=.returned (.bool p.2.isEmpty)/\Bl w w':=by
 have HB:=qh ((Below.refl w.heap.size w).alloc lZ (.cells #[.int .i64 p.1.1,.int .i64 p.1.2,.string (S p.2)] 173))
 obtain⟨⟨a,b⟩,t⟩:=p
 simp only at HB⊢
 go_enter func218,ntmps218
 go_wp2
 go_ret
 exact⟨rfl,HB.o⟩
theorem c6l (u:Value) (l:List P.Pc) (w:World) (hu:PcR w u l) (hl60:l.length<=60) :
 Cz 217 #[u,.func (Fn.func 218) #[] #[]] w
  λe w'=>(∃ad cap,e=.returned (.slice ad (P.blank l) cap))/\Bl w w':=by
 obtain⟨i0,hi,hz0,hz1,hz2⟩:=info_parts c6r
 have HU:=qh hu
 have HB0:=qh ((Below.refl w.heap.size w).alloc lZ (.cells #[] 173))
 have HO0:=qh (show OwnP w.heap.size (w.alloc (.cells #[] 173)) (.slice (some ⟨w.heap.size,0,none⟩) 0 0) [] by have h:=World.ownsRow_lit (base:=w.heap.size) (e:=173) (size:=3) w #[] 0 lZ (Nat.zero_le _) sZ;simpa [OwnP,a5a] using h)
 obtain⟨ad,cap,rfl,hl,_⟩:=hu
 go_enter func217,ntmps217
 go_wp2_with fail
 go_loopw [5,11] (λs i wr=>∃(j:Nat) (xs:List P.Pc),j<=l.length/\i=.int .i64 j/\xs.length=P.blank (l.take j)/\OwnP w.heap.size wr s xs/\Bl w wr) (λ_ i _=>l.length-(intOf i).toNat)
 case atStart=>exact⟨0,[],Nat.zero_le _,rfl,rfl,HO0.o,HB0.o⟩
 case round=>
  obtain⟨j,xs,hj,rfl,hxl,hown,hb⟩:=hrel;have HOW:=qh hown;have HB:=qh hb;have HZ:=qh hb.size;have HXL:=qh hxl;have hbl:=P.b5o (l.take j);have hxn:xs.length<=j:=by rw [List.length_take]at hbl;omega
  obtain⟨ua,uc,rfl⟩:=OwnP.form hown;clear hbl hown hxl HO0 HB0
  by_cases hlt:j<l.length
  .obtain⟨g,o,hga,hgl,c0,c1,c2⟩:=(HU.o.below hb).at j hlt;subst hga;have i1:(j:Int)<(l.length:Int):=by omega
   have HS:Hq (P.blank (l.take (j+1))=if l[j].2=[] then P.blank (l.take j)+1 else P.blank (l.take j)):=⟨by rw [a0g l j hlt,P.b8v]⟩;generalize l[j]=x at *;obtain⟨⟨a,b⟩,t⟩:=x;simp only at c0 c1 c2 HS;have hba:=(Below.refl wr.heap.size wr).alloc lZ (.cells #[.int .i64 a,.int .i64 b,.string (S t)] 173);have HBA:=qh hba;have d0:(wr.alloc (.cells #[.int .i64 a,.int .i64 b,.string (S t)] 173)).cell? ⟨wr.heap.size,0,none⟩=some (.int .i64 a):=by go_simp
   have d1:(wr.alloc (.cells #[.int .i64 a,.int .i64 b,.string (S t)] 173)).cell? ⟨wr.heap.size,1,none⟩=some (.int .i64 b):=by go_simp
   have d2:(wr.alloc (.cells #[.int .i64 a,.int .i64 b,.string (S t)] 173)).cell? ⟨wr.heap.size,2,none⟩=some (.string (S t)):=by go_simp
   have HDD:=qh (And.intro d0 (And.intro d1 d2));clear hb hba d0 d1 d2
   go_wp2_with fail
   refine (count_one ((a,b),t) _).mono ?_;rintro e v1 ⟨rfl,hb1⟩;have hzv:wr.heap.size+1<=v1.heap.size:=by have:=hb1.size;simp at this;omega
   have e0:=(hb1.cell (p:=⟨wr.heap.size,0,none⟩) sZ).trans HDD.o.1;have e1:=(hb1.cell (p:=⟨wr.heap.size,1,none⟩) sZ).trans HDD.o.2.1;have e2:=(hb1.cell (p:=⟨wr.heap.size,2,none⟩) sZ).trans HDD.o.2.2;have HB1:=qh (HBA.o.trans (hb1.mono sZ));have HBW:=qh (HB.o.trans (HB1.o.mono HZ.o));have HOW1:=qh (a0i HOW.o HB1.o lZ);clear hb1 HBA HDD c0 c1 c2
   by_cases ht:t=[]
   .have HS2:=qh (HS.o.trans (if_pos ht));have f1:t.isEmpty=true:=by rw [ht];rfl
    have HOA:Hq ((v1.alloc (.cells #[.int .i64 a,.int .i64 b,.string (S t)] 173)).ownsRow w.heap.size 173 3 (.slice ua xs.length uc) xs.length (a5a xs)):=⟨World.ownsRow.alloc HOW1.o _⟩;have HZ1:=qh HBW.o.size;simp only [f1];clear ht HS f1
    go_wp2_with (at_builtin;refine wpList_append_own _ rfl _ _ 115 rfl w.heap.size 173 i0 (.agg #[.int .i64 0,.int .i64 0,.string ⟨#[]⟩]) 3 32 underlying115 hi hz0 hz1 hz2 rfl dZ (.slice ua xs.length uc) xs.length (a5a xs) rfl HOA.o ⟨v1.heap.size,0,none⟩ 1 1 [.int .i64 a,.int .i64 b,.string (S t)] rfl rfl ?_ ?_ ?_ ?_ ?_ ?_)
    all_goals first|exact⟨rfl,rfl⟩|(intro z hz;simp only [List.mem_cons,List.not_mem_nil,or_false]at hz;rcases hz with rfl|rfl|rfl<;>rfl)|(unfold maxLen;omega)|omega|(have h1:=HZ1.o;simp;omega)|(intro i z hz;rcases i with _|_|_|i;(injection hz with hz;subst hz;rw [add0];go_simp);(injection hz with hz;subst hz;rw [add0];go_simp);(injection hz with hz;subst hz;rw [add0];go_simp);cases hz)|skip
    intro u4 w4 hown hgr _;have HO4:=qh (show OwnP w.heap.size w4 u4 (xs++[((a,b),t)]) by unfold OwnP;rw [List.length_append,b7f];exact hown);have HB4:=qh ((HBW.o.alloc HBW.o.size _).grown hgr (by have:=HZ1.o;simp;omega) (λk hk=>(World.ownsRow.lt HOA.o k hk).1));clear hown hgr e0 e1 e2;go_wp2
    go_roundw
    case rel=>exact⟨j+1,xs++[((a,b),t)],by omega,by go_num,by rw [HS2.o,List.length_append,HXL.o];rfl,HO4.o,HB4.o⟩
    case measure=>exact zq
   .have HS2:=qh (HS.o.trans (if_neg ht))
    have f1:t.isEmpty=false:=by cases t with
     |nil=>exact absurd rfl ht
     |cons _ _=>rfl
    simp only [f1];clear ht HS f1;go_wp2
    go_roundw
    case rel=>exact⟨j+1,xs,by omega,by go_num,by rw [HS2.o];exact HXL.o,HOW1.o,HBW.o⟩
    case measure=>exact zq
  .have hjl:j=l.length:=by omega
   subst hjl;have HX2:=qh (show xs.length=P.blank l by rw [HXL.o,List.take_length]);clear hb;go_wp2;go_ret;exact⟨⟨ua,uc,by rw [<-HX2.o];rfl⟩,HB.o⟩
theorem d1j (u:Value) (l:List P.Pc) (w:World) (hu:PcR w u l) (hl60:l.length<=60) :
 Cz 146 #[u] w λe w'=>e=.returned (.int .i64 (P.blank l:Int))/\Bl w w':=by
 have HU:=qh hu
 obtain⟨ad,cap,rfl,hl,_⟩:=hu
 go_enter func146,ntmps146
 go_wp2_with fail
 refine (c6l _ l _ HU.o hl60).mono ?_
 rintro e w1 ⟨⟨ua,uc,rfl⟩,hb⟩
 have HB:=qh hb
 clear hb
 go_wp2
 go_ret
 exact⟨rfl,HB.o⟩
theorem b3e (u:Value) (o:List Int) (w:World) (hu:IntR w u o) (ho:P.a0k o=true) :
 Cz 118 #[u] w λe w'=>e=.returned (.string (S (P.fmtS 47 o)))/\Bl w w':=by
 have HU:=qh hu;have HSL:=qh (P.b3h ho)
 have hs6:=(P.a1k ho).2
 obtain⟨ad,cap,rfl,_,_⟩:=hu
 clear ho
 go_enter func118,ntmps118
 go_wp2
 go_loopw [3,4] (λv i wr=>∃k:Nat,k<=o.length/\i=.int .i64 k/\v=.string (S (P.fmtS 47 (o.take k)))/\Bl w wr) (λ_ i _=>o.length-(intOf i).toNat)
 case atStart=>exact⟨0,Nat.zero_le _,rfl,rfl,Below.refl _ _⟩
 case round=>
  obtain⟨k,hk,rfl,rfl,hbk⟩:=hrel;have HBK:=qh hbk;clear hbk
  by_cases hlt:k<o.length
  .obtain⟨m,hm',hms,hmd⟩:=P.a9z HSL.o hlt;have HM:=qh (show m<2^23 by unfold P.a0q at hms;simp only [decide_eq_true_eq]at hms;omega);obtain⟨g,p,hga,hgl,d0⟩:=(HU.o.below HBK.o).at k hlt;subst hga;rw [hm']at d0;have i1:(k:Int)<(o.length:Int):=by omega
   have hfl:=P.a5h 47 (o.take k);have htk:(o.take k).length=k:=by rw [List.length_take];omega
   have HFM:=qh (P.a8o (m:Int));have hfl2:(P.fmtS 47 (o.take k)).length<=2820:=by rw [htk]at hfl;omega
   clear hfl
   by_cases hk0:k=0
   .subst hk0;have HSN:Hq (P.fmtS 47 (o.take (0+1))=P.fmtS 47 (o.take 0)++P.fmt (m:Int)):=⟨by rw [a0g o 0 hlt,hm'];exact P.d8v 47 (m:Int)⟩;clear hm' hmd hms htk;rw [Nat.add_zero]at d0;generalize P.fmtS 47 (o.take 0)=ff at *
    go_wp2_with fail
    refine (b0g m _ HM.o).mono ?_;rintro e w2 ⟨rfl,hb⟩;have HB2:=bt HBK hb;have hfm:=HFM.o;generalize P.fmt (m:Int)=fm at *;have j1:¬9223372036854775807<ff.length+fm.length:=by omega
    clear hb d0 HBK;go_wp2
    go_roundw
    case rel=>
     repeat apply Exists.intro
     refine⟨?_,rfl⟩;exact⟨0+1,by omega,by go_num,by rw [HSN.o],HB2.o⟩
    case measure=>exact zq
   .have HSN:Hq (P.fmtS 47 (o.take (k+1))=P.fmtS 47 (o.take k)++[47]++P.fmt (m:Int)):=⟨by rw [a0g o k hlt,hm'];exact P.d3b 47 _ _ (λh=>by rw [h]at htk;simp at htk;omega)⟩;have i2:(0:Int)<(k:Int):=by omega
    clear hm' hmd hms;generalize P.fmtS 47 (o.take k)=ff at *;have j0:¬9223372036854775807<ff.length+1:=by omega
    go_wp2_with fail
    refine (b0g m _ HM.o).mono ?_;rintro e w2 ⟨rfl,hb⟩;have HB2:=bt HBK hb;have hfm:=HFM.o;generalize P.fmt (m:Int)=fm at *;have j1:¬9223372036854775807<ff.length+1+fm.length:=by omega
    clear hb d0 HBK;go_wp2
    go_roundw
    case rel=>
     repeat apply Exists.intro
     refine⟨?_,rfl⟩;exact⟨k+1,by omega,by go_num,by rw [HSN.o];simp,HB2.o⟩
    case measure=>exact zq
  .have hkl:k=o.length:=by omega
   subst hkl;have HTL:=qh (List.take_length (l:=o))
   try rw [HTL.o]
   go_wp2;go_ret;exact⟨rfl,HBK.o⟩
end Go.Proofs.YtggfdnopminemaaGreatDoor

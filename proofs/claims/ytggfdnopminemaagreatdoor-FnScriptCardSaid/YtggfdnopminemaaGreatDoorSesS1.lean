/- Plain: scripts and the. -/
import Derived.Test.YtggfdnopminemaaGreatDoorCurS0
set_option linter.all false
namespace Go.Proofs.YtggfdnopminemaaGreatDoor.P
open Go.Proofs.Tryz
variable {text:Bs} {ls r:List Bs} {g:LogT} {s:Ses}
def runX (a:Ses×LogT) (ls:List Bs):(Ses×LogT)×List Bs:=ls.foldl (λq x=>((exec q.1.1 q.1.2 x).1,q.2++[(exec q.1.1 q.1.2 x).2])) (a,[])
theorem b4z (a:Ses×LogT) (ls:List Bs) (x:Bs):runX a (ls++[x])=((exec (runX a ls).1.1 (runX a ls).1.2 x).1,(runX a ls).2++[(exec (runX a ls).1.1 (runX a ls).1.2 x).2]):=by
 unfold runX;rw [List.foldl_append];rfl
theorem c1l {a:Ses×LogT} {j:Nat} (h:j<ls.length) {ws:List Bs} (hr:runX a (ls.take j)=((s,g),ws)):runX a (ls.take (j+1))=((exec s g ls[j]).1,ws++[(exec s g ls[j]).2]):=by
 rw [List.take_succ_eq_append_getElem h,b4z,hr]
theorem c6n (a:Ses×LogT):∀ls:List Bs,(runX a ls).2.length=ls.length:=by
 intro ls;obtain⟨n,hn⟩:∃n,ls.length=n:=⟨_,rfl⟩
 induction n generalizing ls with
 |zero=>rw [List.eq_nil_of_length_eq_zero hn];rfl
 |succ n ih=>
  obtain⟨xs,x,rfl⟩:∃xs x,ls=xs++[x]:=⟨ls.dropLast,ls.getLast (by intro e;rw [e]at hn;simp at hn),(List.dropLast_concat_getLast _).symm⟩;rw [b4z];have:=ih xs (by simpa using hn);simp only [List.length_append,List.length_cons,List.length_nil];omega
def a7x (s:Ses) (g:LogT) (text:Bs):Bool:=b4e s g&&(decide ((split 10 text).length<=30)&&decide (text.length<=4000))
def script (s:Ses) (g:LogT) (text:Bs):List Bs×Bool:=if a7x s g text then ((runX (s,g) (split 10 text)).2,true) else ([],false)
theorem c3z (h:b4e s g=false\/30<(split 10 text).length\/4000<text.length):script s g text=([],false):=by
 unfold script;rw [if_neg];unfold a7x;simp only [Bool.and_eq_true,decide_eq_true_eq];rintro⟨h1,h2,h3⟩
 rcases h with h|h|h
 .rw [h]at h1;cases h1
 .omega
 .omega
theorem b3h (h:b4e s g=true) (h2:(split 10 text).length<=30) (h3:text.length<=4000):script s g text=((runX (s,g) (split 10 text)).2,true):=by
 unfold script;rw [if_pos];unfold a7x;simp only [Bool.and_eq_true,decide_eq_true_eq];exact⟨h,h2,h3⟩
theorem d0s (s:Ses) (g:LogT) (text:Bs):(script s g text).1.length<=30:=by
 unfold script
 split
 .rename_i h
  unfold a7x at h;simp only [Bool.and_eq_true,decide_eq_true_eq]at h;simp only;rw [c6n];exact h.2.1
 .exact Nat.zero_le _
theorem b0j (c:UInt8):∀(l:Bs),∀x∈split c l,∀b∈x,(b==c)=false
 |[]=>by
  intro x hx b hb;have e:x=[]:=by simpa [split] using hx
  rw [e]at hb;cases hb
 |a::l=>by
  intro x hx b hb;rw [a0y]at hx
  split at hx
  .rcases List.mem_cons.1 hx with rfl|hx
   .cases hb
   .exact b0j c l x hx b hb
  .rename_i ha
   have ha2:(a==c)=false:=by simpa using ha
   have ih:=b0j c l;revert hx ih
   cases split c l with
   |nil=>
    intro hx _;have e:x=[a]:=by simpa using hx
    rw [e]at hb;have e2:b=a:=by simpa using hb
    rw [e2];exact ha2
   |cons y r=>
    intro hx ih
    rcases List.mem_cons.1 hx with rfl|hx
    .rcases List.mem_cons.1 hb with rfl|hb
     .exact ha2
     .exact ih y (List.mem_cons_self ..) b hb
    .exact ih x (List.mem_cons_of_mem _ hx) b hb
theorem b7c (c:UInt8):∀(l:Bs),(∀b∈l,(b==c)=false)->split c l=[l]
 |[],_=>rfl
 |a::l,h=>by
  rw [a0y,h a (List.mem_cons_self ..),b7c c l λb hb=>h b (List.mem_cons_of_mem _ hb)];rfl
theorem b8u (a:Ses×LogT) (x:Bs):∀(n:Nat) (xs:List Bs),xs.length=n->∃r,(runX a (x::xs)).2=(exec a.1 a.2 x).2::r
 |0,xs,h=>by rw [List.eq_nil_of_length_eq_zero h];exact⟨[],rfl⟩
 |n+1,xs,h=>by
  obtain⟨ys,y,rfl⟩:∃ys y,xs=ys++[y]:=⟨xs.dropLast,xs.getLast (by intro e;rw [e]at h;cases h),(List.dropLast_concat_getLast _).symm⟩;obtain⟨r,hr⟩:=b8u a x n ys (by simpa using h);rw [<-List.cons_append,b4z,hr];exact⟨r++[_],rfl⟩
theorem d0b (h:script s g text=(r,true)) (hl:split 10 text=ls) (h0:0<ls.length) :
 ∃y,script s g ls[0]=([y],true)/\r.length=ls.length/\∃q,r=y::q:=by
 have hok:a7x s g text=true:=by
  cases hq:a7x s g text with
  |true=>rfl
  |false=>unfold script at h;rw [hq]at h;cases h
 have e:(runX (s,g) ls).2=r:=by
  unfold script at h;rw [if_pos hok,hl]at h;exact (Prod.mk.inj h).1
 unfold a7x at hok
 simp only [Bool.and_eq_true,decide_eq_true_eq]at hok
 obtain⟨h1,h2,h3⟩:=hok
 have hp:=b0a 10 text
 have hn:=b0j 10 text
 rw [hl]at hp hn
 obtain⟨x,xs,rfl⟩:∃x xs,ls=x::xs:=by
  cases ls with
  |nil=>cases h0
  |cons x xs=>exact⟨x,xs,rfl⟩
 have hx:split 10 x=[x]:=b7c 10 x (hn x (List.mem_cons_self ..))
 obtain⟨q,hq⟩:=b8u (s,g) x xs.length xs rfl
 refine⟨(exec s g x).2,?_,?_,q,e.symm.trans hq⟩
 .show script s g x=_
  rw [b3h h1 (by rw [hx];simp) (Nat.le_trans (hp.2 x (List.mem_cons_self ..)) h3),hx];rfl
 .rw [<-e];exact c6n _ _
theorem c1w (h:script s g text=(r,false)):r=[]:=by
 unfold script at h
 split at h
 .cases h
 .exact (Prod.mk.inj h).1.symm
end Go.Proofs.YtggfdnopminemaaGreatDoor.P
namespace Go.Proofs.YtggfdnopminemaaGreatDoor
open Go.Proofs.Tryz
open Go Go.RowKit
set_option maxHeartbeats 8000000
set_option maxRecDepth 100000
variable {l ws:List Str} {B N cap lo:Nat} {g:P.LogT} {s s0:P.Ses} {u u0 us us0:Go.Value} {v v' w:Go.World}
def RowS (u:Value) (l:List Str) (v:World):Prop:=∃ad cap,u=.slice ad l.length cap/\(l=[]\/∃g,ad=some ⟨g,0,none⟩/\a4l g l v)
theorem b4j {v:Value} (h:a0m B w v l):RowS v l w:=by
 by_cases hl:l=[]
 .rcases h.2 with⟨hv,h0⟩|⟨g,cap,cur,hv,_⟩
  .exact⟨none,0,by rw [hv,hl];rfl,.inl hl⟩
  .exact⟨_,cap,hv,.inl hl⟩
 .obtain⟨g,cap,e,_,hs⟩:=a3s h hl;exact⟨_,cap,e,.inr ⟨g,rfl,hs⟩⟩
theorem RowS.below (h:RowS u l v) (hb:Bl v v'):RowS u l v':=by
 obtain⟨ad,cap,e,h⟩:=h;exact⟨ad,cap,e,h.imp id λ⟨g,h1,h2⟩=>⟨g,h1,h2.below hb⟩⟩
theorem c3p (t:Str) (w:World) (ht:t.length<=4000) :
 Cz 18 #[.string (S t),.string (S [10])] w λe w'=>∃v,e=.returned (.tuple #[v,.bool true])/\a0m w.heap.size w' v (P.split 10 t)/\Bl w w':=by
 have h1:¬(4000:Int)<(t.length:Int):=by omega
 go_enter func18,ntmps18
 go_wp2_with fail
 refine (b2b t _ oZ).mono ?_
 rintro e w1 ⟨v,rfl,ho,hb⟩
 have HO:=qh ho;have HB:=qh hb
 clear ho hb
 go_wp2
 go_ret2
 exact⟨v,rfl,HO.o,HB.o⟩
theorem c9g (lo B:Nat) (l:P.Dic) (st:List Int) (sc d p:Str) (n:Int) (word more:Str) (w:World) (h:SesM lo B (l,(st,sc)) (d,p,n) w) (hm:Small l) (ht:P.trans l (st,sc)=true) (hl:more.length<=2^20) (hE:L.Env w) :
 Cz 70 #[.pointer (some ⟨B,0,none⟩),.string (S word),.string (S more)] w (a5g lo B (P.args (l,(st,sc)) word more) (d,p,n) w):=by
 have HSM:=qh h;have HE:=qh hE;have HT:=qh ht
 have HP0:Hq (P.args (l,(st,sc)) word more=if word=P.d1g then P.a5y (l,(st,sc)) more else if word=P.c9s\/word=P.b2i\/word=P.c4f then P.a6h (l,(st,sc)) word more else if word=P.c5p then P.a1n (l,(st,sc)) more else if word=P.b9g then ((l,(st,sc)),P.a5t l more) else if word=P.e0o then ((l,(st,sc)),P.a0x more) else if word=P.d5c then ((l,(st,sc)),P.c1h more) else ((l,(st,sc)),none)):=⟨rfl⟩
 have HDC:=qh (P.a9c ht)
 clear h hE ht
 by_cases h1:word=[112,114,101,115,115]
 .have HP0:=qh (HP0.o.trans (if_pos h1));have f1:=P.beqB h1;clear h1
  go_enter func70,ntmps70
  go_wp2_with fail
  refine (a7z more _ oZ).mono ?_;rintro e w1 ⟨rfl,hb⟩;have HB1:=qh hb;clear hb;have HPR:Hq (P.a5y (l,(st,sc)) more=if (P.parse more).2 then P.typed (l,(st,sc)) [((P.parse more).1:Int)] else ((l,(st,sc)),none)):=⟨rfl⟩;generalize P.parse more=q at *;obtain⟨k,q⟩:=q;simp only at HPR⊢
  cases q
  .have HP:=qh (HP0.o.trans (HPR.o.trans (if_neg dZ)));go_wp2;go_ret2;exact HSM.o.keep (x:=[]) HB1.o HP.o
  .have HP:=qh (HP0.o.trans (HPR.o.trans (if_pos rfl)));have hba:=(Below.refl w1.heap.size w1).alloc lZ (.cells #[.int .i64 (k:Int)] 3);have HB2:=bt HB1 hba;have HS2:=qh (HSM.o.below HB2.o);have HE2:=qh (HE.o.below HB2.o HE.o.size);have HO:=qh (c0n (k:Int) w1);clear hba
   go_wp2_with fail
   refine (b0f lo B _ l st [(k:Int)] sc d p n _ HS2.o hm HT.o HO.o HE2.o).mono ?_;rintro e w2 hmp;obtain⟨x,ok,rfl,hx,hs,hc⟩:=hmp.after HB2.o;have HX:=qh hx;have HS:=qh hs;have HC:=qh hc;clear hmp hx hs hc;exact zq26
 have HP1:=qh (HP0.o.trans (if_neg h1))
 have f1:=P.beqN h1
 clear HP0 h1
 by_cases ho_type:word=[116,121,112,101]
 .have HP:=qh (HP1.o.trans (if_pos (.inl ho_type)));have f_type:=P.beqB ho_type;clear ho_type;exact d9u
 by_cases ho_delete:word=[100,101,108,101,116,101]
 .have HP:=qh (HP1.o.trans (if_pos (.inr (.inl ho_delete))));have f_type:=P.beqN ho_type;have f_delete:=P.beqB ho_delete;clear ho_delete ho_type;exact d9u
 by_cases ho_lookup:word=[108,111,111,107,117,112]
 .have HP:=qh (HP1.o.trans (if_pos (.inr (.inr ho_lookup))));have f_type:=P.beqN ho_type;have f_delete:=P.beqN ho_delete;have f_lookup:=P.beqB ho_lookup;clear ho_lookup ho_type ho_delete;exact d9u
 have HP2:=qh (HP1.o.trans (if_neg (λh=>by rcases h with h|h|h;exact ho_type h;exact ho_delete h;exact ho_lookup h)))
 have f_type:=P.beqN ho_type;have f_delete:=P.beqN ho_delete;have f_lookup:=P.beqN ho_lookup
 clear HP1 ho_type ho_delete ho_lookup
 by_cases h3:word=[100,101,102,105,110,101]
 .have HP:=qh (HP2.o.trans (if_pos h3));have f3:=P.beqB h3;clear h3
  go_enter func70,ntmps70
  go_wp2_with fail
  refine (c3c lo B l st sc d p n more _ HSM.o hm HT.o hl HE.o).mono ?_;exact zq23
 have HP3:=qh (HP2.o.trans (if_neg h3))
 have f3:=P.beqN h3
 clear HP2 h3
 by_cases h4:word=[114,101,118,101,114,115,101]
 .have HP:=qh (HP3.o.trans (if_pos h4));have f4:=P.beqB h4;clear h4
  go_enter func70,ntmps70
  go_wp2_with fail
  refine (b9o lo B l st sc d p n more _ HSM.o hm HDC.o hl HE.o).mono ?_;exact zq23
 have HP4:=qh (HP3.o.trans (if_neg h4))
 have f4:=P.beqN h4
 clear HP3 h4
 by_cases h5:word=[106,111,105,110]
 .have HP:=qh (HP4.o.trans (if_pos h5));have f5:=P.beqB h5;have HJ:=qh (P.c9h more);have hcl:=P.a8v more [32];clear h5
  go_enter func70,ntmps70
  go_wp2_with fail
  refine (L.b9w more 32 _ oZ HE.o).mono ?_;rintro e w1 ⟨rfl,k1,rfl⟩;obtain⟨x,y,q,hcut⟩:∃x y b,Lib.cut more [32]=(x,y,b):=⟨_,_,_,rfl⟩;rw [hcut]at HJ hcl⊢;simp only at HJ hcl⊢;clear hcut;have HB1:Hq (Bl w (w.drewN k1)):=⟨below_drewN bZ _⟩;generalize w.drewN k1=w1 at *
  go_wp2_with fail
  refine (a8d x y _ oZ oZ).mono ?_;rintro e w2 ⟨rfl,hb⟩;have HB2:=bt HB1 hb;clear hb;go_wp2;go_ret2;exact⟨_,_,rfl,by rw [HP.o,<-HJ.o];rfl,by rw [HP.o];exact HSM.o.below HB2.o,Below.chg HB2.o _⟩
 have HP5:=qh (HP4.o.trans (if_neg h5))
 have f5:=P.beqN h5
 clear HP4 h5
 by_cases h6:word=[108,111,111,115,101]
 .have HP0:=qh (HP5.o.trans (if_pos h6));have f6:=P.beqB h6;clear h6
  go_enter func70,ntmps70
  go_wp2_with fail
  refine (a8u more _ oZ).mono ?_;rintro e w1 ⟨rfl,hb⟩;have HB1:=qh hb;clear hb;have HPL:Hq (P.c1h more=if (P.loose more).2 then some (P.fmt ((P.loose more).1:Int)) else none):=⟨rfl⟩;have HLS:=qh (P.a8g (t:=more));generalize P.loose more=q at *;obtain⟨k,q⟩:=q;simp only at HPL HLS⊢
  cases q
  .have HP:Hq (P.args (l,(st,sc)) word more=((l,(st,sc)),none)):=⟨by rw [HP0.o,HPL.o];rfl⟩;go_wp2;go_ret2;exact HSM.o.keep (x:=[]) HB1.o HP.o
  .have HST:=qh (HLS.o rfl)
   go_wp2_with fail
   refine (a3d k _ HST.o).mono ?_;rintro e w2 ⟨rfl,hb⟩;have HB2:=bt HB1 hb;clear hb;go_wp2;go_ret2;exact⟨_,_,rfl,by rw [HP0.o,HPL.o];rfl,by rw [HP0.o];exact HSM.o.below HB2.o,Below.chg HB2.o _⟩
 have HP:=qh (HP5.o.trans (if_neg h6))
 have f6:=P.beqN h6
 clear HP5 h6
 go_enter func70,ntmps70
 go_wp2
 go_ret2
 exact HSM.o.keep (x:=[]) bZ HP.o
theorem c1m (u us:Value) (l:P.Dic) (st:List Int) (sc d p:Str) (n:Int) (line:Str) (w:World) (hu:EntR w u l) (hus:IntR w us st) (hf:P.Fit (l,(st,sc)) (d,p,n)) (hl:line.length<=2^20) (hE:L.Env w) :
 Cz 19 #[a1b u us sc d p n,.string (S line)] w (d5l (P.exec (l,(st,sc)) (d,p,n) line) w):=by
 obtain⟨hf1,hf2,hf3,hf4,hf5,hf6⟩:=hf
 have hm:Small l:=⟨hf1,hf2,hf3⟩
 simp only at hf4 hf5 hf6
 clear hf1 hf2 hf3
 have hu0:=hu;have hus0:=hus
 obtain⟨ad,cap,rfl,_,_⟩:=hu0
 obtain⟨sd,sap,rfl,_,_⟩:=hus0
 obtain⟨W0,hW0⟩:∃v,(w.alloc (a0f (.slice ad l.length cap) (.slice sd st.length sap) sc d p n)).alloc (a0f (.slice none 0 0) (.slice none 0 0) [] [] [] 0)=v:=⟨_,rfl⟩
 have hb0:Bl w W0:=by rw [<-hW0];exact ((Below.refl w.heap.size w).alloc lZ _).alloc sZ _
 have hzW:W0.heap.size=w.heap.size+2:=by rw [<-hW0];simp
 have hq0:SQ w.heap.size (.slice ad l.length cap) (.slice sd st.length sap) sc d p n W0:=by
  exact zq96
 have HU:=qh hu;have HUS:=qh hus;have HE:=qh hE;have HQ:=qh hq0;have HB:=qh hb0;have hzW2:w.heap.size+2<=W0.heap.size:=by omega
 clear hq0 hb0 hu hus hE hzW;go_enter func19,ntmps19;go_upto_region 1 with fail;try rw [hW0]
 clear hW0;obtain⟨⟨o0,o1,o2,o3,o4,o5,o6⟩,_⟩:=HQ.o.1;go_wp2_with fail;refine (c9d _ _ l st sc d p n _ (HU.o.below HB.o) (HUS.o.below HB.o) hm oZ).mono ?_;rintro e w1 ⟨nu,nus,m,rfl,hD,hI,hm1,hm2,hb⟩;obtain⟨na,nc,rfl,-,-⟩:=id hD;obtain⟨ma,mc,rfl,-,-⟩:=id hI;obtain⟨w2,hw2⟩:∃v,w1.alloc (a0f (.slice na l.length nc) (.slice ma st.length mc) sc d p n)=v:=⟨_,rfl⟩;have hba:Bl w1 w2:=by rw [<-hw2];exact bZ.alloc lZ _
 have hz1:=hb.size;have hBz:w1.heap.size<w2.heap.size:=by rw [<-hw2];simp
 refine zm39 ?_;intro HB2 HQ2 HS2;clear hD hI hm1 hm2 hb hba HQ HB o0 o1 o2 o3 o4 o5 o6;go_upto_region 2 with fail;try rw [hw2]
 clear hw2;obtain⟨⟨o0,o1,o2,o3,o4,o5,o6⟩,_⟩:=HQ2.o.1;go_wp2_with fail;refine (a3n _ _ l st sc d p n _ (HU.o.below HB2.o) (HUS.o.below HB2.o) hm hf5 hf6 (HE.o.below HB2.o HE.o.size)).mono ?_;rintro e w3 ⟨rfl,hb⟩;have HB3:=bt HB2 hb;have HQ3:=qh (HQ2.o.below hb);have HS3:=qh (HS2.o.below hb);have hB3:=hb.size;clear hb HB2 HQ2 HS2 o0 o1 o2 o3 o4 o5 o6
 cases h1:P.sess l st sc d p n
 .have HP:=qh (P.b9j (s:=(l,(st,sc))) (g:=(d,p,n)) (line:=line) h1);obtain⟨_,_,bu,bus,hso,hrows⟩:=HS3.o;simp only at hso hrows;obtain⟨ba,bc,rfl,_,_⟩:=id hrows.dic;obtain⟨ia,ic,rfl,_,_⟩:=id hrows.str;obtain⟨⟨o0,o1,o2,o3,o4,o5,o6⟩,_⟩:=hso;obtain⟨⟨r0,r1,r2,r3,r4,r5,r6⟩,f0,f1,f2,f3,f4,f5⟩:=HQ3.o.2;obtain⟨V,hV⟩:∃v,wr6 w3 (w.heap.size+1) (.slice ba l.length bc) (.slice ia st.length ic) sc d p n=v:=⟨_,rfl⟩;have hset:Chg (λb=>b=w.heap.size+1) w3 V:=by rw [<-hV];exact a3m _ _ _ _ _ _ _ _
  refine zm35 ?_;intro HRV HBV HROW;unfold wr6 at hV;clear hrows;go_wp2;refine zn49 ?_;intro q0 q1 q2 q3 q4 q5 q6;clear hset hV;refine bodyPost_ret (v:=.tuple #[a1b (.slice ba l.length bc) (.slice ia st.length ic) sc d p n,.string (S [110,111])]) (by simp [results,results19,go_sem,q0,q1,q2,q3,q4,q5]) rfl ⟨_,_,w1.heap.size,by rw [HP.o]<;>rfl,by rw [HP.o];exact HROW.o,HBV.o⟩
 have HT:=qh (P.a7j (s:=(l,(st,sc))) (g:=(d,p,n)) h1)
 go_wp2_with fail
 refine (L.a3c line [] _ oZ sZ).mono ?_
 rintro e w4 ⟨rfl,hb⟩
 rw [P.a6q]
 have HB4:=bt HB3 hb;have HQ4:=qh (HQ3.o.below hb);have HS4:=qh (HS3.o.below hb)
 have hB4:=Nat.le_trans hB3 hb.size
 clear hb HB3 HQ3 HS3
 cases h2:P.good line []
 .have HP:=qh (P.b4u (s:=(l,(st,sc))) (g:=(d,p,n)) (line:=line) h1 h2);obtain⟨_,_,bu,bus,hso,hrows⟩:=HS4.o;simp only at hso hrows;obtain⟨ba,bc,rfl,_,_⟩:=id hrows.dic;obtain⟨ia,ic,rfl,_,_⟩:=id hrows.str;obtain⟨⟨o0,o1,o2,o3,o4,o5,o6⟩,_⟩:=hso;obtain⟨⟨r0,r1,r2,r3,r4,r5,r6⟩,f0,f1,f2,f3,f4,f5⟩:=HQ4.o.2;obtain⟨V,hV⟩:∃v,wr6 w4 (w.heap.size+1) (.slice ba l.length bc) (.slice ia st.length ic) sc d p n=v:=⟨_,rfl⟩;have hset:Chg (λb=>b=w.heap.size+1) w4 V:=by rw [<-hV];exact a3m _ _ _ _ _ _ _ _
  refine zm4 ?_;intro HRV HBV HROW;unfold wr6 at hV;clear hrows;go_wp2;refine zn49 ?_;intro q0 q1 q2 q3 q4 q5 q6;clear hset hV;refine bodyPost_ret (v:=.tuple #[a1b (.slice ba l.length bc) (.slice ia st.length ic) sc d p n,.string (S [98,97,100])]) (by simp [results,results19,go_sem,q0,q1,q2,q3,q4,q5]) rfl ⟨_,_,w1.heap.size,by rw [HP.o]<;>rfl,by rw [HP.o];exact HROW.o,HBV.o⟩
 by_cases h3:n=60
 .have HP:=qh (P.b0u (s:=(l,(st,sc))) (g:=(d,p,n)) (line:=line) h1 h2 h3);have f9:(n==60)=true:=by rw [h3];rfl
  clear h3;obtain⟨⟨x0,x1,x2,x3,x4,x5,x6⟩,_⟩:=HQ4.o.1;obtain⟨_,_,bu,bus,hso,hrows⟩:=HS4.o;simp only at hso hrows;obtain⟨ba,bc,rfl,_,_⟩:=id hrows.dic;obtain⟨ia,ic,rfl,_,_⟩:=id hrows.str;obtain⟨⟨o0,o1,o2,o3,o4,o5,o6⟩,_⟩:=hso;obtain⟨⟨r0,r1,r2,r3,r4,r5,r6⟩,f0,f1,f2,f3,f4,f5⟩:=HQ4.o.2;obtain⟨V,hV⟩:∃v,wr6 w4 (w.heap.size+1) (.slice ba l.length bc) (.slice ia st.length ic) sc d p n=v:=⟨_,rfl⟩;have hset:Chg (λb=>b=w.heap.size+1) w4 V:=by rw [<-hV];exact a3m _ _ _ _ _ _ _ _
  refine zm4 ?_;intro HRV HBV HROW;unfold wr6 at hV;clear hrows;go_wp2;refine zn49 ?_;intro q0 q1 q2 q3 q4 q5 q6;clear hset hV;refine bodyPost_ret (v:=.tuple #[a1b (.slice ba l.length bc) (.slice ia st.length ic) sc d p n,.string (S [102,117,108,108])]) (by simp [results,results19,go_sem,q0,q1,q2,q3,q4,q5]) rfl ⟨_,_,w1.heap.size,by rw [HP.o]<;>rfl,by rw [HP.o];exact HROW.o,HBV.o⟩
 have HP:=qh (P.b4s (s:=(l,(st,sc))) (g:=(d,p,n)) (line:=line) h1 h2 h3)
 have f9:(n==60)=false:=by rw [beq_eq_false_iff_ne];exact h3
 obtain⟨⟨x0,x1,x2,x3,x4,x5,x6⟩,_⟩:=HQ4.o.1
 have HCM:=qh (P.e0n (l,(st,sc)) line)
 have hcl:=P.a8v line [32]
 go_wp2_with fail
 refine (L.b9w line 32 _ oZ (HE.o.below HB4.o HE.o.size)).mono ?_
 rintro e w5 ⟨rfl,k1,rfl⟩
 obtain⟨x,y,q,hcut⟩:∃x y b,Lib.cut line [32]=(x,y,b):=⟨_,_,_,rfl⟩
 rw [hcut]at HCM hcl⊢
 simp only at HCM hcl⊢
 clear hcut
 have hbd:Bl w4 (w4.drewN k1):=below_drewN bZ _
 have HB5:=bt HB4 hbd;have HQ5:=qh (HQ4.o.below hbd);have HS5:=qh (HS4.o.below hbd)
 have hB5:=Nat.le_trans hB4 hbd.size
 clear hbd HB4 HQ4 HS4 x0 x1 x2 x3 x4 x5 x6
 generalize w4.drewN k1=w5 at *
 obtain⟨a,ha⟩:∃a,P.cmd (l,(st,sc)) line=a:=⟨_,rfl⟩
 rw [ha]at HP HCM
 clear ha
 go_upto_if 37 with fail
 go_cut [10,11] (λrv kv wx=>∃(r:Str) (ok:Bool),rv=.string (S r)/\kv=.bool ok/\okB r ok=a.2/\SesM (w.heap.size+2) w1.heap.size a.1 (d,p,n) wx/\Chg (λb=>b=w1.heap.size) w5 wx)
 case first=>
  cases q
  .go_wp2_with fail
   refine (c4l (w.heap.size+2) w1.heap.size l st sc d p n x _ HS5.o hm HT.o.1 (HE.o.below HB5.o HE.o.size)).mono ?_;rintro e w6 ⟨r,ok,rfl,hx,hs,hc⟩;rw [<-show a=P.alone (l,(st,sc)) x from HCM.o]at hx hs;exact zq151
  .go_wp2_with fail
   refine (c9g (w.heap.size+2) w1.heap.size l st sc d p n x y _ HS5.o hm HT.o.1 oZ (HE.o.below HB5.o HE.o.size)).mono ?_;rintro e w6 ⟨r,ok,rfl,hx,hs,hc⟩;rw [<-show a=P.args (l,(st,sc)) x y from HCM.o]at hx hs;exact zq151
 case rest=>
  obtain⟨r,ok,rfl,rfl,hx,hs,hc⟩:=hcut;generalize hww:wc=w6 at *;clear hww HCM;have HX:=qh hx;have HS6:=qh hs;have HQ6:=qh (show SQ w.heap.size (.slice ad l.length cap) (.slice sd st.length sap) sc d p n w6 from⟨HQ5.o.1.a0b hc (λh=>by have h9:w.heap.size=w1.heap.size:=h;omega),HQ5.o.2.a0b hc (λh=>by have h9:w.heap.size+1=w1.heap.size:=h;omega)⟩);have HB6:=qh (Chg.a0n HB5.o hc HB5.o.size (λb h=>by have h9:b=w1.heap.size:=h;omega));have hB6:=Nat.le_trans hB5 hc.size;clear hx hs hc HB5 HQ5 HS5;have HRP:=qh (b4x a.2)
  go_upto_if 50 with fail
  go_cut [10] (λrv wx=>rv=.string (S (txtB a.2))/\w6=wx)
  case first=>
   cases ok
   .go_wp2;go_meet;exact⟨by rw [<-HX.o];rfl,rfl⟩
   .go_wp2;go_meet;exact⟨by rw [<-HX.o];rfl,rfl⟩
  case rest=>
   obtain⟨rfl,rfl⟩:=hcut;generalize txtB a.2=t1 at *
   go_upto_if 53 with fail
   go_cut [10] (λrv wx=>rv=.string (S (P.a5d a.2))/\w6=wx)
   case first=>
    exact zq89
   case rest=>
    obtain⟨rfl,rfl⟩:=hcut;have hrl:=P.b5h a.2;generalize P.a5d a.2=rep at *;obtain⟨⟨x0,x1,x2,x3,x4,x5,x6⟩,_⟩:=HQ6.o.1;go_wp2_with fail;refine (L.c6e d p n line rep _ hf5 hf6 hl oZ (HE.o.below HB6.o HE.o.size)).mono ?_;rintro e w7 ⟨rfl,hb⟩;rw [P.app_eq];have HB7:=bt HB6 hb;have HQ7:=qh (HQ6.o.below hb);have HS7:=qh (HS6.o.below hb);have hB7:=Nat.le_trans hB6 hb.size;have HG:Hq (P.c8q (d,p,n) line rep=(d,(P.appS d p n line rep).1,(P.appS d p n line rep).2.1)):=⟨rfl⟩;rw [HG.o]at HP;generalize P.appS d p n line rep=g9 at *;obtain⟨p9,n9,c9⟩:=g9;simp only at HP⊢;clear hb HB6 HQ6 HS6 x0 x1 x2 x3 x4 x5 x6 HG;obtain⟨w8,hw8⟩:∃v,wr3 w7 w1.heap.size d p9 n9=v:=⟨_,rfl⟩;have hc8:Chg (λb=>b=w1.heap.size) w7 w8:=by rw [<-hw8];exact b3a _ _ _ _ _
    have HS8:Hq (SesM (w.heap.size+2) w1.heap.size a.1 (d,p9,n9) w8):=⟨by rw [<-hw8];exact HS7.o.log⟩;have HQ8:=qh (show SQ w.heap.size (.slice ad l.length cap) (.slice sd st.length sap) sc d p n w8 from⟨HQ7.o.1.a0b hc8 (λh=>by have h9:w.heap.size=w1.heap.size:=h;omega),HQ7.o.2.a0b hc8 (λh=>by have h9:w.heap.size+1=w1.heap.size:=h;omega)⟩);have HB8:=qh (Chg.a0n HB7.o hc8 HB7.o.size (λb h=>by have h9:b=w1.heap.size:=h;omega));have hB8:=Nat.le_trans hB7 hc8.size;obtain⟨_,_,zu,zus,hzs,_⟩:=HS7.o;obtain⟨⟨o0,o1,o2,o3,o4,o5,o6⟩,g0,g1,g2,g3,g4,g5⟩:=hzs;unfold wr3 at hw8;go_upto_region 18 with fail;try rw [hw8]
    clear hw8 hc8 HB7 HQ7 HS7 o0 o1 o2 o3 o4 o5 o6 g0 g1 g2 g3 g4 g5;obtain⟨⟨D,T2,sc2⟩,ro⟩:=a;simp only at HP HS8 hrl;obtain⟨_,_,bu,bus,hso,hrows⟩:=HS8.o;simp only at hso hrows;obtain⟨ba,bc,rfl,_,_⟩:=id hrows.dic;obtain⟨ia,ic,rfl,_,_⟩:=id hrows.str;obtain⟨⟨o0,o1,o2,o3,o4,o5,o6⟩,_⟩:=hso;obtain⟨⟨r0,r1,r2,r3,r4,r5,r6⟩,f0,f1,f2,f3,f4,f5⟩:=HQ8.o.2;obtain⟨V,hV⟩:∃v,wr6 w8 (w.heap.size+1) (.slice ba D.length bc) (.slice ia T2.length ic) sc2 d p9 n9=v:=⟨_,rfl⟩;have hset:Chg (λb=>b=w.heap.size+1) w8 V:=by rw [<-hV];exact a3m _ _ _ _ _ _ _ _
    have HRV:Hq (SOut (w.heap.size+1) (.slice ba D.length bc) (.slice ia T2.length ic) sc2 d p9 n9 V):=⟨by rw [<-hV];exact a5e HQ8.o.2 _ _ _ _ _ _⟩;have HBV:=qh (Chg.a0n HB8.o hset HB8.o.size (λb h=>by have h9:b=w.heap.size+1:=h;omega));have HROW:=qh ((hrows.a6a hset (λb h=>by have h9:b=w.heap.size+1:=h;omega)).lo (lo':=w.heap.size) oZ);unfold wr6 at hV;clear hrows;go_wp2;refine zn49 ?_;intro q0 q1 q2 q3 q4 q5 q6;clear hset hV;refine bodyPost_ret (v:=.tuple #[a1b (.slice ba D.length bc) (.slice ia T2.length ic) sc2 d p9 n9,.string (S rep)]) (by simp [results,results19,go_sem,q0,q1,q2,q3,q4,q5]) rfl ⟨_,_,w1.heap.size,by rw [HP.o]<;>rfl,by rw [HP.o];exact HROW.o,HBV.o⟩
def RunW (B lo:Nat) (v:World) (u0 us0:Value) (s0:P.Ses) (u us:Value) (s:P.Ses):Prop:=(u=u0/\us=us0/\s.1=s0.1/\s.2.1=s0.2.1)\/a2u lo B v u us s.1 s.2.1
theorem RunW.read (h:RunW B lo v u0 us0 s0 u us s) (h0:EntR w u0 s0.1) (h1:IntR w us0 s0.2.1) (hb:Bl w v):EntR v u s.1/\IntR v us s.2.1:=by
 rcases h with⟨rfl,rfl,h2,h3⟩|h
 .rw [h2,h3];exact⟨h0.below hb,h1.below hb⟩
 .exact⟨h.dic,h.str⟩
theorem a4l.a0b {g:Nat} {X:Blk} (h:a4l g l v) (hc:Chg X v v') (hX:¬X g):a4l g l v':=
 ⟨⟨Nat.lt_of_lt_of_le h.1.1 hc.size,by obtain⟨c,f,k⟩:=h.1.2;exact⟨c,f,(hc.block g h.1.1 hX).trans k⟩⟩,λj hj=>(hc.cell (p:=⟨g,j,none⟩) h.1.1 hX).trans (h.2 j hj)⟩
structure RunB (w:World) (N B cap:Nat) (u0 us0:Value) (s0:P.Ses) (ws:List Str) (u us:Value) (s:P.Ses) (g:P.LogT) (v:World):Prop where
 own:a0m N v (.slice (some ⟨B,0,none⟩) ws.length cap) ws
 box:SOut w.heap.size u us s.2.2 g.1 g.2.1 g.2.2 v
 rows:RunW B (w.heap.size+1) v u0 us0 s0 u us s
 bel:Bl w v
 lo:w.heap.size<N/\N<=B/\B<v.heap.size
theorem RunB.below (h:RunB w N B cap u0 us0 s0 ws u us s g v) (hb:Bl v v'):RunB w N B cap u0 us0 s0 ws u us s g v':=
 ⟨a0i h.own hb lZ,h.box.below hb,h.rows.imp id (·.below hb),h.bel.trans (hb.mono h.bel.size),h.lo.1,h.lo.2.1,Nat.lt_of_lt_of_le h.lo.2.2 hb.size⟩
theorem RunB.store {B2:Nat} {u2 us2:Value} {s2:P.Ses} {g2:P.LogT} (h:RunB w N B cap u0 us0 s0 ws u us s g v) (hr:a2u lo B2 v u2 us2 s2.1 s2.2.1) (hlo:B<lo):RunB w N B cap u0 us0 s0 ws u2 us2 s2 g2 (wr6 v w.heap.size u2 us2 s2.2.2 g2.1 g2.2.1 g2.2.2):=by
 have hc:=a3m v w.heap.size u2 us2 s2.2.2 g2.1 g2.2.1 g2.2.2;have hl:=h.lo;obtain⟨F,G,h1,h2,h3,h4,h5⟩:=hr;have hr':a2u (w.heap.size+1) B v u2 us2 s2.1 s2.2.1:=⟨F,G,h1,h2,λb hb=>by have:=h3 b hb;omega,λb hb=>by have:=h4 b hb;omega,h5⟩;exact⟨a1d h.own hc (λk hk e=>by have:=(World.ownsRow.lt h.own k hk).1;omega),a5e h.box _ _ _ _ _ _,.inr (hr'.a6a hc (λb e=>by omega)),Chg.a0n h.bel hc h.bel.size (λb e=>by omega),hl.1,hl.2.1,Nat.lt_of_lt_of_le hl.2.2 hc.size⟩
theorem RunB.snoc {x:Str} {o:Obj} {B' cap':Nat} (h:RunB w N B cap u0 us0 s0 ws u us s g v)
 (hown:v'.ownsRow N 9 1 (.slice (some ⟨B',0,none⟩) (ws.length+1) cap') (ws.length+1) (a2b ws++[.string (S x)])) (hg:(v.alloc o).grownBy v' (some B)) (hat:some B=some B'\/B'=(v.alloc o).heap.size) (hlt:B'<v'.heap.size):RunB w N B' cap' u0 us0 s0 (ws++[x]) u us s g v':=by
 have h1:=h.below ((Below.refl v.heap.size v).alloc lZ o)
 have hc:=a3w hg
 have hl:=h1.lo
 have hb:B'=B\/(v.alloc o).heap.size<=B':=by
  rcases hat with e|e
  .injection e with e;exact .inl e.symm
  .exact .inr oZ
 refine⟨by rw [List.length_append];exact L.a0m.snoc hown,h1.box.a0b hc (λe=>by injection e with e;omega),?_,Chg.a0n h1.bel hc h1.bel.size (λb e=>by injection e with e;omega),hl.1,by omega,hlt⟩
 rcases h1.rows with h2|h2
 .exact .inl h2
 .have h3:=h2.a0b hc (λb e=>.inl (by injection e with e;exact e.symm));refine .inr ?_
  rcases hb with rfl|hb
  .exact h3
  .obtain⟨F,G,k1,k2,k3,k4,k5⟩:=h2;exact⟨F,G,k1.a0b a0e hc (λb hb e=>by injection e with e;exact (k3 b hb).2.2 e.symm),k2.a0b a1g hc (λb hb e=>by injection e with e;exact (k4 b hb).2.2 e.symm),λb hb=>⟨(k3 b hb).1,Nat.lt_of_lt_of_le (k3 b hb).2.1 hc.size,λe=>by have:=(k3 b hb).2.1;omega⟩,λb hb=>⟨(k4 b hb).1,Nat.lt_of_lt_of_le (k4 b hb).2.1 hc.size,λe=>by have:=(k4 b hb).2.1;omega⟩,k5⟩
def a6y (r:List Str×Bool) (w:World) (e:Ending) (w':World):Prop:=∃v,e=.returned (.tuple #[v,.bool r.2])/\a0m w.heap.size w' v r.1/\Bl w w'
theorem a9m (u us:Value) (l:P.Dic) (st:List Int) (sc d p:Str) (n:Int) (text:Str) (w:World) (hu:EntR w u l) (hus:IntR w us st) (hf:P.Fit (l,(st,sc)) (d,p,n)) (hl:text.length<=2^20) (hE:L.Env w) :
 Cz 40 #[a1b u us sc d p n,.string (S text)] w (a6y (P.script (l,(st,sc)) (d,p,n) text) w):=by
 obtain⟨i0,hi,hj0,hj1,hj2⟩:=info_parts L.a7r;have HF:=qh hf;obtain⟨hf1,hf2,hf3,hf4,hf5,hf6⟩:=hf;have hm:Small l:=⟨hf1,hf2,hf3⟩;simp only at hf4 hf5 hf6;clear hf1 hf2 hf3;have hu0:=hu;have hus0:=hus;obtain⟨ad,cap,rfl,_,_⟩:=hu0;obtain⟨sd,sap,rfl,_,_⟩:=hus0;obtain⟨W0,hW0⟩:∃v,w.alloc (a0f (.slice ad l.length cap) (.slice sd st.length sap) sc d p n)=v:=⟨_,rfl⟩;have hb0:Bl w W0:=by rw [<-hW0];exact (Below.refl w.heap.size w).alloc lZ _
 have hx0:SOut w.heap.size (.slice ad l.length cap) (.slice sd st.length sap) sc d p n W0:=by rw [<-hW0];exact SOut.new _ _ _ _ _ _ _
 refine zm64 ?_;intro HU HUS HE HX HB HPL HNO HYES hzW;clear hx0 hb0 hu hus hE;go_enter func40,ntmps40;go_upto_region 1 with fail;try rw [hW0]
 clear hW0;go_wp2_with fail;refine (d4b text 10 _ oZ (HE.o.below HB.o HE.o.size).dic).mono ?_;rintro e w1 ⟨rfl,hst,hb⟩;have HX1:=qh (HX.o.below hb);have HB1:=bt HB hb;have HST:=qh hst;have hz1:w.heap.size<w1.heap.size:=Nat.lt_of_lt_of_le hzW hb.size;have hz1b:W0.heap.size<w1.heap.size:=hst.1.1;clear hst hb HX HB;have HYES2:=qh (λa b c=>(HYES.o a b c).trans rfl);generalize hls:P.split 10 text=ls at *;clear hls;obtain⟨⟨o0,o1,o2,o3,o4,o5,o6⟩,_⟩:=HX1.o;go_wp2_with fail;refine (a3n _ _ l st sc d p n _ (HU.o.below HB1.o) (HUS.o.below HB1.o) hm hf5 hf6 (HE.o.below HB1.o HE.o.size)).mono ?_;rintro e w2 ⟨rfl,hb⟩;have HX2:=qh (HX1.o.below hb);have HB2:=bt HB1 hb;have HST2:=qh (HST.o.below hb);have hz2:w.heap.size<w2.heap.size:=Nat.lt_of_lt_of_le hz1 hb.size;have hz2b:=hb.size;clear hb HX1 HB1 HST o0 o1 o2 o3 o4 o5 o6 HYES2;have bad:∀v:World,Bl w v->(P.sess l st sc d p n=false\/30<ls.length\/4000<text.length)->a6y (P.script (l,(st,sc)) (d,p,n) text) w (.returned (.tuple #[.slice none 0 0,.bool false])) v:=λv hb h=>by rw [HNO.o h];exact⟨_,rfl,World.ownsRow_nil _ _ _ _,hb⟩
 have HBAD:=qh bad;clear bad
 cases h1:P.sess l st sc d p n
 .go_wp2;go_ret2;exact HBAD.o _ HB2.o (.inl h1)
 by_cases h2:30<ls.length
 .have i2:(30:Int)<(ls.length:Int):=by omega
  go_wp2;go_ret2;exact HBAD.o _ HB2.o (.inr (.inl h2))
 by_cases h3:4000<text.length
 .have i2:¬(30:Int)<(ls.length:Int):=by omega
  have i3:(4000:Int)<(text.length:Int):=by omega
  go_wp2;go_ret2;exact HBAD.o _ HB2.o (.inr (.inr h3))
 have i2:¬(30:Int)<(ls.length:Int):=by omega
 have i3:¬(4000:Int)<(text.length:Int):=by omega
 have HP:=qh (HYES.o h1 oZ oZ)
 have HR0:=qh (show RunB w w2.heap.size w2.heap.size 0 (.slice ad l.length cap) (.slice sd st.length sap) (l,(st,sc)) [] (.slice ad l.length cap) (.slice sd st.length sap) (l,(st,sc)) (d,p,n) (w2.alloc (.cells #[] 9)) from
  ⟨by have h:=World.ownsRow_lit (base:=w2.heap.size) (e:=9) (size:=1) w2 #[] 0 lZ (Nat.zero_le _) sZ;simpa [a0m,a2b] using h,HX2.o.below (bZ.alloc lZ _),.inl ⟨rfl,rfl,rfl,rfl⟩,HB2.o.alloc HB2.o.size _,by omega,Nat.le_refl _,by simp⟩)
 have HST3:=qh (HST2.o.below ((Below.refl w2.heap.size w2).alloc lZ (.cells #[] 9)))
 clear HX2 HB2 HST2 HNO HYES HBAD h1
 go_wp2
 go_loopw [7,29] (λv i wr=>∃(j:Nat) (s1:P.Ses) (g1:P.LogT) (ws:List Str) (B cp:Nat) (u1 us1:Value),j<=ls.length/\i=.int .i64 j/\v=.slice (some ⟨B,0,none⟩) ws.length cp/\P.runX ((l,(st,sc)),(d,p,n)) (ls.take j)=((s1,g1),ws)/\ws.length=j/\P.Fit s1 g1/\RunB w w2.heap.size B cp (.slice ad l.length cap) (.slice sd st.length sap) (l,(st,sc)) ws u1 us1 s1 g1 wr/\a4l W0.heap.size ls wr) (λ_ i _=>ls.length-(intOf i).toNat)
 case atStart=>exact⟨0,_,_,[],_,0,_,_,Nat.zero_le _,rfl,rfl,rfl,rfl,HF.o,HR0.o,HST3.o⟩
 case round=>
  obtain⟨j,s1,g1,ws,B,cp,u1,us1,hj,rfl,rfl,hrun,hwl,hfit,hI,hst⟩:=hrel;have HRUN:=qh hrun;have HFIT:=qh hfit;have HI:=qh hI;have HST:=qh hst;have hBz:=hI.lo;clear hrun hfit HR0 HST3 hI;have HWL:=qh hwl;have hwle:ws.length<=30:=by omega
  clear hwl
  by_cases hlt:j<ls.length
  .have c0:=hst.2 j hlt;have i1:(j:Int)<(ls.length:Int):=by omega
   have hxl:=HPL.o j hlt;have HNX:=qh (P.c1l hlt HRUN.o);have HFX:=qh (P.c6k (line:=ls[j]) HFIT.o);obtain⟨hlt0,hlt1⟩:=hst.1;generalize ls[j]=x at *;obtain⟨l1,st1,sc1⟩:=s1;obtain⟨d1,p1,n1⟩:=g1;obtain⟨hre,hri⟩:=HI.o.rows.read HU.o HUS.o HI.o.bel;have HRE:=qh hre;have HRI:=qh hri;obtain⟨ua,uc,rfl,_,_⟩:=id hre;obtain⟨ia,ic,rfl,_,_⟩:=id hri;obtain⟨⟨o0,o1,o2,o3,o4,o5,o6⟩,_⟩:=HI.o.box;simp only at o0 o1 o2 o3 o4 o5;clear hre hri hst hlt1
   go_wp2_with fail
   refine (c1m _ _ l1 st1 sc1 d1 p1 n1 x _ HRE.o HRI.o HFIT.o oZ (HE.o.below HI.o.bel HE.o.size)).mono ?_;rintro e w4 ⟨nu,nus,B2,rfl,hrows,hb⟩;generalize P.exec (l1,(st1,sc1)) (d1,p1,n1) x=q at *;obtain⟨⟨⟨l2,st2,sc2⟩,d2,p2,n2⟩,rep⟩:=q;simp only at hrows HNX HFX⊢;have HI4:=qh (HI.o.below hb);have HST4:=qh (HST.o.below hb);have hz4:=hb.size;have HI5:=qh (HI4.o.store (g2:=(d2,p2,n2)) (s2:=(l2,(st2,sc2))) hrows hBz.2.2);obtain⟨na,nc,rfl,_,_⟩:=id hrows.dic;obtain⟨ma,mc,rfl,_,_⟩:=id hrows.str;obtain⟨w5,hw5⟩:∃v,wr6 w4 w.heap.size (.slice na l2.length nc) (.slice ma st2.length mc) sc2 d2 p2 n2=v:=⟨_,rfl⟩;have hc5:Chg (λb=>b=w.heap.size) w4 w5:=by rw [<-hw5];exact a3m _ _ _ _ _ _ _ _
   have hz5:=hc5.size;have HST5:Hq (a4l W0.heap.size ls w5):=⟨HST4.o.a0b hc5 oZ⟩;simp only at HI5;rw [hw5]at HI5;obtain⟨⟨r0,r1,r2,r3,r4,r5,r6⟩,f0,f1,f2,f3,f4,f5⟩:=HI4.o.box;clear o0 o1 o2 o3 o4 o5 o6 hb hrows HI HST hc5 HST4 c0;unfold wr6 at hw5
   go_upto_region 10 with fail
   try rw [hw5]
   clear hw5 r0 r1 r2 r3 r4 r5 r6 f0 f1 f2 f3 f4 f5 HI4;have HOA:Hq ((w5.alloc (.cells #[.string (S rep)] 9)).ownsRow w2.heap.size 9 1 (.slice (some ⟨B,0,none⟩) ws.length cp) ws.length (a2b ws)):=⟨World.ownsRow.alloc HI5.o.own _⟩
   go_wp2_with (at_builtin;refine wpList_append_lies _ rfl _ _ 43 rfl w2.heap.size 9 i0 (.string ⟨#[]⟩) 1 16 underlying43 hi hj0 hj1 hj2 rfl dZ (.slice (some ⟨B,0,none⟩) ws.length cp) ws.length (a2b ws) rfl HOA.o ⟨w5.heap.size,0,none⟩ 1 1 [.string (S rep)] rfl rfl ?c1 ?c2 (Nat.zero_lt_one) ?c3 ?c4 ?c5 _ rfl ?_)
   case c1=>intro j u hj;match j,hj with|0,hj=>(simp at hj;subst hj;simp [Addr.add])
   case c2=>intro u hu;simp at hu;subst hu;rfl
   case c3=>unfold maxLen;omega
   case c4=>omega
   case c5=>simp;omega
   intro B' cap' w6 hown hgr hat hlt6;have HI6:=qh (HI5.o.snoc (x:=rep) hown hgr (by rcases hat with e|e;exact .inl e;exact .inr (by simpa using e)) hlt6);have HST6:Hq (a4l W0.heap.size ls w6):=⟨(HST5.o.below ((Below.refl w5.heap.size w5).alloc lZ (.cells #[.string (S rep)] 9))).a0b (a3w hgr) (λe=>by have h9:some B=some W0.heap.size:=e;injection h9 with h9;omega)⟩;clear hown hgr hat HOA HI5 HST5;go_wp2
   go_roundw
   case rel=>exact⟨j+1,_,_,ws++[rep],B',cap',_,_,by omega,by go_num,by rw [List.length_append];rfl,HNX.o,by rw [List.length_append,HWL.o];rfl,HFX.o,HI6.o,HST6.o⟩
   case measure=>exact zq
  .exact zq60
end Go.Proofs.YtggfdnopminemaaGreatDoor

/- GatePlays: of every script each answer, each message, and what was answered, are what the document says. It holds of all arguments, without a condition. -/
import Derived.Test.YtogamdaomdoapaaGreatGa05
import Derived.Test.YtogamdaomdoapaaGreatGa09
import Derived.Test.YtogamdaomdoapaaGreatGa40
import Derived.Test.YtogamdaomdoapaaGreatGa41
import Derived.Test.YtogamdaomdoapaaGreatGa42
import Derived.Test.YtogamdaomdoapaaGreatGa43
import Derived.Test.YtogamdaomdoapaaGreatGa46
import Derived.Test.YtogamdaomdoapaaGreatRows
namespace Go.Proofs.YtogamdaomdoapaaGreat
open Go.Value renaming int→aI,string→aS,bool→aB
open Go.IntKind renaming i64→aK
open Go.Lib renaming hid→uH
set_option maxRecDepth 20000
open Go.RowKit
namespace G
def opsR (l:List Ac):List Value:=l.flatMap fun a=>opV a.o
def zz12:Array Value:=#[aI aK 0,aI aK 0,aI aK 0,aS ⟨#[]⟩,aS ⟨#[]⟩,aS ⟨#[]⟩,aS ⟨#[]⟩,aI aK 0,aI aK 0,aI aK 0,aB false,aI aK 0]
theorem opInfo:(Tryz.prog.info? 30).map (fun i=>(i.zero,i.size,i.bytes))=some (some (.agg zz12),12,128):=by kernel_rfl
theorem opV_one (o:Rq):∀ u∈opV o,u.oneCell'=true:=by
 intro u hu
 unfold opV at hu
 simp only [List.mem_cons,List.not_mem_nil,or_false] at hu
 rcases hu with rfl | rfl | rfl | rfl | rfl | rfl | rfl | rfl | rfl | rfl | rfl | rfl<;>rfl
theorem opsR_at {A:List Ac} {i:Nat} {a:Ac} (h:A[i]?=some a) (j:Nat) (hj:j<12):(opsR A)[i * 12+j]?=(opV a.o)[j]?:=by
 induction A generalizing i with
 | nil=>simp at h
 | cons x A ih =>
  rw [show opsR (x::A)=opV x.o++opsR A from List.flatMap_cons ..]
  cases i with
  | zero =>
   simp only [List.getElem?_cons_zero,Option.some.injEq] at h
   subst h
   rw [List.getElem?_append_left (by show _<12;omega)]
   congr 1
   omega
  | succ i =>
   simp only [List.getElem?_cons_succ] at h
   rw [List.getElem?_append_right (by show 12≤_;omega),show (i+1) * 12+j - (opV x.o).length=i * 12+j from by show (i+1) * 12+j - 12=_;omega]
   exact ih h
theorem hv_row {w:World} {base:Nat} {ao:Option Addr} {cap:Nat} {A:List Ac} (h:(c0f base 30 12 ao A.length cap (opsR A)).T w):∃ g,HvAt w g (A.map Ac.o)∧(0<A.length→ao=some ⟨g,0,none⟩∧g<w.heap.size):=by
 have hr:w.ownsRow base 30 12 (.slice ao A.length cap) A.length (opsR A):=h
 rcases hr.2 with ⟨hv,h0⟩ | ⟨g,c,cur,hv,hb,hh,hx⟩
 ·simp only [Value.slice.injEq] at hv
  have hA:A=[]:=List.length_eq_zero_iff.1 hv.2.1
  subst hA
  exact ⟨0,fun i o ho=>by simp at ho,fun h=>absurd h (by simp)⟩
 ·simp only [Value.slice.injEq] at hv
  obtain ⟨rfl,-,-⟩:=hv
  refine ⟨g,fun i o ho=>?_,fun _=>⟨rfl,lt_of_block hh⟩⟩
  rw [List.getElem?_map] at ho
  obtain ⟨a,ha,rfl⟩:=Option.map_eq_some_iff.1 ho
  have hi:=(List.getElem?_eq_some_iff.1 ha).1
  have hc:=fun (j:Nat) (hj:j<12)=>(hr.cellAt (i * 12+j) (by omega)).trans (opsR_at ha j hj)
  exact ⟨hc 3 (by decide),hc 4 (by decide),hc 5 (by decide),hc 6 (by decide)⟩
set_option maxHeartbeats 8000000 in
theorem t0u (id hosts:Int) (ao:Option Addr) (L:List Ac) (cap:Nat) (w:World) (hA:AsAt w ao L):Calls Tryz.prog 4 #[aI aK id,aI aK hosts,.slice ao L.length cap] w fun e w'=>e=.returned (aB true)∧Below w.heap.size w w':=by
 obtain ⟨n,hn⟩:∃ n,n=L.length:=⟨_,rfl⟩
 rw [←hn]
 have Hn:=uH hn
 have HA:=uH hA
 clear hn hA
 go_enter Tryz.func4,Tryz.ntmps4
 refine a0a fun C HC=>?_
 go_wp2_with fail
 ((have hC:=HC.out);clear HC;subst hC)
 refine a0a fun C HC=>?_
 go_wp2_with fail
 ((have hC:=HC.out);clear HC;subst hC)
 obtain ⟨N,hN⟩:∃ N,N=min n 120:=⟨_,rfl⟩
 have HN:=uH hN
 clear hN
 have S0:Hid (St w w [c0f w.heap.size 30 12 none 0 0 (opsR [])]):=uH ((St.start w).m0h 30 12)
 refine a0a fun C HC=>?_
 go_wp2_with fail
 rename_i Q' KK hKK
 have Hrest:Hid (∀ (u3 u4 u5 u6 u8 u9 u10 u11 u12 u13 u14 u15 u16 u17 u18 u19 u20 u21 u22 u23 u24 u25 u26 u27 u28 u29 u30 u31 u32 u33 u34 u35 u36 u37 u38 u39 u40 u41 u42 u43 u44 u45 u46 u47 u48 u49 u50 u51 u52 u53 u54 u55 u56 u57 u58 u59 u60 u61 u62 u63 u64 u65 u66 u67 u68 u69 u70 u71 u72 u73 u74 u75 u76 u77 u78 u79 u80 u81 u82 u83 u84 u85 u86 u87 u88 u89 u90 u91 u92 u93 u94 u95 u96 u97 u98 u99 u100 u101 u102 u103 u104 u105 u106 u107 u108 u109 u110 u111 u112 u113 u114 u115 u116 u117 u118 u119 u120 u121 u122 u123 u124 u125 u126 u127 u128 u129 u130 u131 u132 u133 u134 u135 u136 u137 u138 u139 u140 u141 u142 u143 u144 u145 u146 u147 u148 u149 u150 u151 u152 u153 u154 u155 u156 u157 u158 u159 u160 u161 u162 u163 u164 u165 u166 u167 u168 u169 u170 u171 u172 u173 u174 u175 u176 u177 u178 u179 u180 u181 u182 u183 u184 u185 u186 u187 u188 u189 u190 u191 u192 u193 u194 u195 u196 u197 u198 u199 u200 u201 u202 u203 u204 u205 u206 u207 u208 u209 u210 u211 u212 u213 u214 u215 u216:Value) (i:Nat) (mo:Option Addr) (mc:Nat) (wr:World),Hid (∀ (k:Nat) (a:Ac),k<N→L[k]?=some a→a.bl.length≤300)→Hid (Calls Tryz.prog 15 #[.slice mo i mc] wr fun e w'=>(e=.returned (aB true)∨e=.returned (aB false))∧w'=wr)→Hid (St w wr [c0f w.heap.size 30 12 mo i mc (opsR (L.take i))])→Code.wp Tryz.prog C Q' { tmps:=#[aI aK id,aI aK hosts,.slice ao n cap,u3,u4,u5,u6,.slice mo i mc,u8,u9,u10,u11,u12,u13,u14,u15,u16,u17,u18,u19,u20,u21,u22,u23,u24,u25,u26,u27,u28,u29,u30,u31,u32,u33,u34,u35,u36,u37,u38,u39,u40,u41,u42,u43,u44,u45,u46,u47,u48,u49,u50,u51,u52,u53,u54,u55,u56,u57,u58,u59,u60,u61,u62,u63,u64,u65,u66,u67,u68,u69,u70,u71,u72,u73,u74,u75,u76,u77,u78,u79,u80,u81,u82,u83,u84,u85,u86,u87,u88,u89,u90,u91,u92,u93,u94,u95,u96,u97,u98,u99,u100,u101,u102,u103,u104,u105,u106,u107,u108,u109,u110,u111,u112,u113,u114,u115,u116,u117,u118,u119,u120,u121,u122,u123,u124,u125,u126,u127,u128,u129,u130,u131,u132,u133,u134,u135,u136,u137,u138,u139,u140,u141,u142,u143,u144,u145,u146,u147,u148,u149,u150,u151,u152,u153,u154,u155,u156,u157,u158,u159,u160,u161,u162,u163,u164,u165,u166,u167,u168,u169,u170,u171,u172,u173,u174,u175,u176,u177,u178,u179,u180,u181,u182,u183,u184,u185,u186,u187,u188,u189,u190,u191,u192,u193,u194,u195,u196,u197,u198,u199,u200,u201,u202,u203,u204,u205,u206,u207,u208,u209,u210,u211,u212,u213,u214,u215,u216],defers:=[] } wr):=by
  refine uH ?_
  intro u3 u4 u5 u6 u8 u9 u10 u11 u12 u13 u14 u15 u16 u17 u18 u19 u20 u21 u22 u23 u24 u25 u26 u27 u28 u29 u30 u31 u32 u33 u34 u35 u36 u37 u38 u39 u40 u41 u42 u43 u44 u45 u46 u47 u48 u49 u50 u51 u52 u53 u54 u55 u56 u57 u58 u59 u60 u61 u62 u63 u64 u65 u66 u67 u68 u69 u70 u71 u72 u73 u74 u75 u76 u77 u78 u79 u80 u81 u82 u83 u84 u85 u86 u87 u88 u89 u90 u91 u92 u93 u94 u95 u96 u97 u98 u99 u100 u101 u102 u103 u104 u105 u106 u107 u108 u109 u110 u111 u112 u113 u114 u115 u116 u117 u118 u119 u120 u121 u122 u123 u124 u125 u126 u127 u128 u129 u130 u131 u132 u133 u134 u135 u136 u137 u138 u139 u140 u141 u142 u143 u144 u145 u146 u147 u148 u149 u150 u151 u152 u153 u154 u155 u156 u157 u158 u159 u160 u161 u162 u163 u164 u165 u166 u167 u168 u169 u170 u171 u172 u173 u174 u175 u176 u177 u178 u179 u180 u181 u182 u183 u184 u185 u186 u187 u188 u189 u190 u191 u192 u193 u194 u195 u196 u197 u198 u199 u200 u201 u202 u203 u204 u205 u206 u207 u208 u209 u210 u211 u212 u213 u214 u215 u216 i mo mc wr HB Hhv HS
  clear hKK
  ((have hC:=HC.out);clear HC;subst hC)
  refine a0a fun C HC=>?_
  go_wp2_with fail
  refine Hhv.out.mono ?_
  rintro e w1 ⟨he,rfl⟩
  rcases he with rfl | rfl
  ·go_wp2_with fail
   (have hC:=HC.out);clear HC;subst hC
   go_wp2_with fail
   go_ret
   exact ⟨rfl,HS.out.b⟩
  go_wp2_with fail
  ((have hC:=HC.out);clear HC;subst hC)
  have S:=uH ((St.start w).grow HS.out.b)
  refine a0a fun C HC=>?_
  go_wp2_with fail
  refine (x0c id hosts w1).mono ?_
  intro e w2 hN1
  unfold n0x at hN1
  cases hno:l0d id hosts with
  | false =>
   rw [if_neg (by rw [hno];simp)] at hN1
   obtain ⟨rfl,rfl⟩:=hN1
   go_wp2_with fail
   ((have hC:=HC.out);clear HC;subst hC)
   refine a0a fun C HC=>?_
   go_wp2_with fail
   refine (s0h id hosts w2).mono ?_
   intro e w3 hN2
   unfold k0g at hN2
   rw [if_neg (by rw [hno];simp)] at hN2
   obtain ⟨rfl,rfl⟩:=hN2
   go_wp2_with fail
   ((have hC:=HC.out);clear HC;subst hC)
   refine a0a fun C HC=>?_
   go_wp2_with fail
   ((have hC:=HC.out);clear HC;subst hC)
   go_wp2_with fail
   go_loopw [13] (fun s13 wr=>s13=aI aK 0∧Hid (wr=w3)) (fun _ _=>0)
   case atStart=>exact ⟨rfl,uH rfl⟩
   case round =>
    obtain ⟨rfl,hw3⟩:=hrel
    have hW:=hw3.out
    subst hW
    rcases Bool.eq_false_or_eq_true (decide ((0:Int)<n)) with t1 | t1
    case' inl=>go_wp2_with fail
    case' inr=>go_wp2_with fail
    all_goals
     refine (x0m _).mono ?_
     rintro e w4 ⟨rfl,hb⟩
     have hfin:=(S.out.grow hb).b
     clear hb
     go_wp2_with fail
     go_ret
     exact ⟨rfl,hfin⟩
  | true =>
   rw [if_pos hno] at hN1
   obtain ⟨rfl,rfl⟩:=hN1
   have Hok0:=uH (x0b hno)
   obtain ⟨p,hp⟩:∃ p,p=w1.heap.size:=⟨_,rfl⟩
   rw [←hp]
   have S1:=uH (S.out.objN (.cells (gtV (newG id hosts) (.slice none 0 0)) 82) p hp)
   obtain ⟨w2,hw2⟩:∃ w2,w2=w1.alloc (.cells (gtV (newG id hosts) (.slice none 0 0)) 82):=⟨_,rfl⟩
   rw [←hw2] at S1 ⊢
   clear hp hw2 S HS Hhv
   go_wp2_with fail
   ((have hC:=HC.out);clear HC;subst hC)
   refine a0a fun C HC=>?_
   go_wp2_with fail
   refine (s0h id hosts w2).mono ?_
   intro e w3 hN2
   unfold k0g at hN2
   rw [if_pos hno] at hN2
   obtain ⟨rfl,rfl⟩:=hN2
   obtain ⟨r,hr⟩:∃ r,r=w2.heap.size:=⟨_,rfl⟩
   rw [←hr]
   have S2:=uH ((((S1.out.objN (.cells (rgV (newG id hosts) (.slice none 0 0)) 71) r hr).m0h 93 18).pull (A:=[_])).pull (A:=[_,_]))
   obtain ⟨w3,hw3⟩:∃ w3,w3=w2.alloc (.cells (rgV (newG id hosts) (.slice none 0 0)) 71):=⟨_,rfl⟩
   rw [←hw3] at S2 ⊢
   clear hr hw3 S1 hno
   have S3:Hid (St w w3 [thG p (newG id hosts) (.slice none 0 0),thA w.heap.size none 0 [],thR r (newG id hosts) (.slice none 0 0),thB w.heap.size none 0 []]):=uH ((S2.out.m0h 79 18).pull (A:=[_]))
   clear S2
   go_wp2_with fail
   ((have hC:=HC.out);clear HC;subst hC)
   refine a0a fun C HC=>?_
   go_wp2_with fail
   ((have hC:=HC.out);clear HC;subst hC)
   go_wp2_with fail
   refine wp_loop (LpI w id hosts (.slice ao n cap) p r N) (fun a _=>N - (intOf (a.tmps.getD 13 undef)).toNat) ?_ ?_
   ·exact .mk _ _ _ _ _ _ _ _ _ _ _ _ _ _ _ _ _ _ _ _ _ _ _ _ _ _ _ _ _ _ _ _ _ _ _ _ _ _ _ _ _ _ _ _ _ _ _ _ _ _ _ _ _ _ _ _ _ _ _ _ _ _ _ _ _ _ _ _ _ _ _ _ _ _ _ _ _ _ _ _ _ _ _ _ _ _ _ _ _ _ _ _ _ _ _ _ _ _ _ _ _ _ _ _ _ _ _ _ _ _ _ _ _ _ _ _ _ _ _ _ _ _ _ _ _ _ _ _ _ _ _ _ _ _ _ _ _ _ _ _ _ _ _ _ _ _ _ _ _ _ _ _ _ _ _ _ _ _ _ _ _ _ _ _ _ _ _ _ _ _ _ _ _ _ _ _ _ _ _ _ _ _ _ _ _ _ _ _ _ _ _ _ _ _ _ _ _ _ _ _ _ _ _ _ _ _ _ _ _ 0 (newG id hosts) [] none none 0 0 w3 (by omega) (by simp) Hok0 S3
   ·clear Hok0 S3
    intro aa wr hinv
    obtain ⟨y3,y4,y5,y6,y7,y8,y14,y15,y16,y17,y18,y19,y20,y21,y22,y23,y24,y25,y26,y27,y28,y29,y30,y31,y32,y33,y34,y35,y36,y37,y38,y39,y40,y41,y42,y43,y44,y45,y46,y47,y48,y49,y50,y51,y52,y53,y54,y55,y56,y57,y58,y59,y60,y61,y62,y63,y64,y65,y66,y67,y68,y69,y70,y71,y72,y73,y74,y75,y76,y77,y78,y79,y80,y81,y82,y83,y84,y85,y86,y87,y88,y89,y90,y91,y92,y93,y94,y95,y96,y97,y98,y99,y100,y101,y102,y103,y104,y105,y106,y107,y108,y109,y110,y111,y112,y113,y114,y115,y116,y117,y118,y119,y120,y121,y122,y123,y124,y125,y126,y127,y128,y129,y130,y131,y132,y133,y134,y135,y136,y137,y138,y139,y140,y141,y142,y143,y144,y145,y146,y147,y148,y149,y150,y151,y152,y153,y154,y155,y156,y157,y158,y159,y160,y161,y162,y163,y164,y165,y166,y167,y168,y169,y170,y171,y172,y173,y174,y175,y176,y177,y178,y179,y180,y181,y182,y183,y184,y185,y186,y187,y188,y189,y190,y191,y192,y193,y194,y195,y196,y197,y198,y199,y200,y201,y202,y203,y204,y205,y206,y207,y208,y209,y210,y211,y212,y213,y214,y215,y216,i,g,A,a1,a2,c1,c2,_,hi,hAi,Hok,S⟩:=hinv
    by_cases hlt:i<N
    ·have hltI:(i:Int)<n:=by have:=HN.out;omega
     have hlt2:(i:Int)<120:=by have:=HN.out;omega
     have hl2:i<L.length:=by have:=HN.out;have:=Hn.out;omega
     obtain ⟨b,off,rfl,hbl,hac⟩:=HA.out (by omega)
     obtain ⟨a,ha⟩:∃ a,L[i]?=some a:=⟨_,List.getElem?_eq_getElem hl2⟩
     obtain ⟨hcell,hsl⟩:=hac i a ha
     have h300:=HB.out i a hlt ha
     have Hcell:=uH hcell
     have Hsl:=uH hsl
     have hin:i<n:=by omega
     have hA5:A.length≤500:=by have:=HN.out;omega
     have hm5:i+1≤1000:=by have:=HN.out;omega
     clear hac hcell hsl ha
     refine a0a fun C HC=>?_
     go_wp2_with fail
     ((have hC:=HC.out);clear HC;subst hC)
     refine a0a fun C HC=>?_
     refine wp_seq ?_
     refine wp_block ?_
     refine x_py rfl S rfl hin Hcell hbl Hsl h300 Hok hA5 (m:=i+1) (by omega) hm5 (uH ?_)
     clear S Hok hA5 Hcell Hsl h300 hbl
     intro y3 y4 y5 y6 y7 y8 y14 y15 y16 y17 y18 y19 y20 y21 y22 y23 y24 y25 y26 y27 y28 y29 y30 y31 y32 y33 y34 y35 y36 y37 y38 y39 y40 y41 y42 y43 y44 y45 y46 y47 y48 y49 y50 y51 y52 y53 y54 y55 y56 y57 y58 y59 y60 y61 y62 y63 y64 y65 y66 y67 y68 y69 y70 y71 y72 y73 y74 y75 y76 y77 y78 y79 y80 y81 y82 y83 y84 y85 y86 y87 y88 y89 y90 y91 y92 y93 y94 y95 y96 y97 y98 y99 y100 y101 y102 y103 y104 y105 y106 y107 y108 y109 y110 y111 y112 y113 y114 y115 y116 y117 y118 y119 y120 y121 y122 y123 y124 y125 y126 y127 y128 y129 y130 y131 y132 y133 y134 y135 y136 y137 y138 y139 y140 y141 y142 y143 y144 y145 y146 y147 y148 y149 y150 y151 y152 y153 y154 y155 y156 y157 y158 y159 y160 y161 y162 y163 y164 y165 y166 y167 y168 y169 y170 y171 y172 y173 y174 y175 y176 y177 y178 y179 y180 y181 y182 y183 y184 y185 y186 y187 y188 y189 y190 y191 y192 y193 y194 y195 y196 y197 y198 y199 y200 y201 y202 y203 y204 y205 y206 y207 y208 y209 y210 y211 y212 y213 y214 y215 y216 w4 g A a1 a2 c1 c2 Hok hAi S
     show C.wp _ _ _ _
     ((have hC:=HC.out);clear HC;subst hC)
     have hi1:IntKind.i64.wrap ((i:Int)+1)=(i:Int)+1:=by rw [IntKind.wrap_i64];omega
     go_wp2_with fail
     have e1:(i:Int)+1=((i+1:Nat):Int):=by omega
     rw [e1]
     refine ⟨?_,?_⟩
     ·exact .mk _ _ _ _ _ _ _ _ _ _ _ _ _ _ _ _ _ _ _ _ _ _ _ _ _ _ _ _ _ _ _ _ _ _ _ _ _ _ _ _ _ _ _ _ _ _ _ _ _ _ _ _ _ _ _ _ _ _ _ _ _ _ _ _ _ _ _ _ _ _ _ _ _ _ _ _ _ _ _ _ _ _ _ _ _ _ _ _ _ _ _ _ _ _ _ _ _ _ _ _ _ _ _ _ _ _ _ _ _ _ _ _ _ _ _ _ _ _ _ _ _ _ _ _ _ _ _ _ _ _ _ _ _ _ _ _ _ _ _ _ _ _ _ _ _ _ _ _ _ _ _ _ _ _ _ _ _ _ _ _ _ _ _ _ _ _ _ _ _ _ _ _ _ _ _ _ _ _ _ _ _ _ _ _ _ _ _ _ _ _ _ _ _ _ _ _ _ _ _ _ _ _ _ _ _ _ _ _ _ (i+1) g A a1 a2 c1 c2 w4 (by omega) hAi Hok S
     ·show N - (intOf (aI aK ((i+1:Nat):Int))).toNat<N - (intOf (aI aK (i:Int))).toNat
      simp [intOf]
      omega
    ·obtain rfl:i=N:=by omega
     by_cases hin:i<n
     case' pos =>
      have h1:(i:Int)<n:=by omega
      have h2:¬(i:Int)<120:=by have:=HN.out;omega
      go_wp2_with fail
     case' neg =>
      have h1:¬(i:Int)<n:=by omega
      go_wp2_with fail
     all_goals
      refine (x0m _).mono ?_
      rintro e w4 ⟨rfl,hb⟩
      have hfin:=(S.out.grow hb).b
      clear hb
      go_wp2_with fail
      go_ret
      exact ⟨rfl,hfin⟩
 go_loopw [7,8] (fun s7 s8 wr=>∃ (i:Nat) (mo:Option Addr) (mc:Nat),s7=.slice mo i mc∧s8=aI aK i∧i≤N∧Hid (∀ (k:Nat) (a:Ac),k<i→L[k]?=some a→a.bl.length≤300)∧Hid (St w wr [c0f w.heap.size 30 12 mo i mc (opsR (L.take i))])) (fun _ s8 _=>N - (intOf s8).toNat)
 case atStart=>exact ⟨0,none,0,rfl,rfl,by omega,uH (fun k a h=>absurd h (by omega)),S0⟩
 case round =>
  clear S0
  obtain ⟨i,mo,mc,rfl,rfl,hi,HB,S⟩:=hrel
  by_cases hlt:i<N
  ·have hltI:(i:Int)<n:=by have:=HN.out;omega
   have hlt2:(i:Int)<120:=by have:=HN.out;omega
   have hl2:i<L.length:=by have:=HN.out;have:=Hn.out;omega
   obtain ⟨b,off,rfl,hbl,hac⟩:=HA.out (by omega)
   obtain ⟨a,ha⟩:∃ a,L[i]?=some a:=⟨_,List.getElem?_eq_getElem hl2⟩
   obtain ⟨hcell,hsl⟩:=hac i a ha
   have hwb:b<wr.heap.size:=Nat.lt_of_lt_of_le hbl S.out.b.size
   have hc2:∀ (j:Nat) v,(acV a)[j]?=some v→wr.cell? ⟨b,off+i * 24+j,none⟩=some v:=fun j v hv=>by
    rw [S.out.b.cell (p:=⟨b,off+i * 24+j,none⟩) hbl]
    exact hcell j v hv
   have d5:=hc2 5 _ rfl
   have d6:=hc2 6 _ rfl
   have d7:=hc2 7 _ rfl
   have d8:=hc2 8 _ rfl
   have d9:=hc2 9 _ rfl
   have d10:=hc2 10 _ rfl
   have d11:=hc2 11 _ rfl
   have d12:=hc2 12 _ rfl
   have d13:=hc2 13 _ rfl
   have d14:=hc2 14 _ rfl
   have d15:=hc2 15 _ rfl
   have d16:=hc2 16 _ rfl
   have d23:=hc2 23 _ rfl
   have Hc3:Hid (∀ w2,Below w.heap.size w w2→b<w2.heap.size∧w2.cell? ⟨b,off+i * 24+23,none⟩=some (.slice a.bo a.bl.length a.bc)):=uH (fun w2 h2=>⟨Nat.lt_of_lt_of_le hbl h2.size,by rw [h2.cell (p:=⟨b,off+i * 24+23,none⟩) hbl];exact hcell 23 _ rfl⟩)
   clear hac hcell hc2 hbl
   obtain ⟨i0,hi0,hz0,hz1,hz2⟩:=info_parts opInfo
   have hrow:wr.ownsRow w.heap.size 30 12 (.slice mo i mc) i (opsR (L.take i)):=S.out.head
   have hwz:=S.out.b.size
   go_wp2_with (at_builtin;go_must (refine a0h _ rfl (.tmp 34) (.tmp 40) 59 rfl w.heap.size 30 i0 (.agg zz12) 12 128 Tryz.underlying59 hi0 hz0 hz1 hz2 rfl (by decide) mo i mc _ rfl (hrow.alloc _) (some ⟨wr.heap.size,0,none⟩) 1 1 (opV a.o) rfl (fun h=>by cases h) rfl ?news (opV_one _) (by unfold maxLen;omega) (by omega) (by simp at hwz ⊢;omega) ?_))
   case news=>first | exact O.q0n _ _ rfl _ _ | (intro j u hu;simpa [opV] using hu)
   intro co c' w2 hown hgrow hco
   have hop:opsR (L.take (i+1))=opsR (L.take i)++opV a.o:=by unfold opsR;rw [List.take_add_one,ha,List.flatMap_append];simp
   have SB:Hid (St w w2 [c0f w.heap.size 30 12 co (i+1) c' (opsR (L.take (i+1)))]):=by
    rw [hop]
    have s1:=S.out.objN (.cells (opV a.o).toArray 30) wr.heap.size rfl
    exact uH ((((s1.pull (A:=[_])).g0a (m:=1) hown hgrow (fun a ha=>(hco a ha).imp (fun h=>h) (fun h=>by simp at h ⊢;omega))).pull (A:=[_])).drop)
   obtain ⟨hwb2,d23⟩:=Hc3.out w2 SB.out.b
   have hi1:IntKind.i64.wrap ((i:Int)+1)=(i:Int)+1:=by rw [IntKind.wrap_i64];omega
   have Hop:=uH ha
   clear hown hgrow hco hop hrow hwz hwb S Hc3 d5 d6 d7 d8 d9 d10 d11 d12 d13 d14 d15 d16 ha
   by_cases hB:300<a.bl.length
   ·have hBI:(300:Int)<(a.bl.length:Int):=by omega
    go_wp2_with fail
    go_ret
    exact ⟨rfl,SB.out.b⟩
   ·have hBI:¬(300:Int)<(a.bl.length:Int):=by omega
    go_wp2_with fail
    go_roundw
    ·refine ⟨i+1,co,c',by go_num,by go_num,by omega,uH (fun k x hk hx=>?_),SB⟩
     rcases Nat.lt_or_ge k i with h1 | h1
     ·exact HB.out k x h1 hx
     ·obtain rfl:k=i:=by omega
      rw [Hop.out] at hx
      obtain rfl:=Option.some.inj hx
      omega
    ·simp [intOf];omega
  ·have hiN:i=N:=by omega
   subst hiN
   have HS:=S
   have HBB:=HB
   by_cases hin:i<n
   case' pos =>
    have h1:(i:Int)<n:=by omega
    have h2:¬(i:Int)<120:=by have:=HN.out;omega
    go_wp2_with fail
   case' neg =>
    have h1:¬(i:Int)<n:=by omega
    go_wp2_with fail
   all_goals
    have hli:(L.take i).length=i:=by rw [List.length_take];have:=HN.out;have:=Hn.out;omega
    obtain ⟨g0,hv0,hg0⟩:=hv_row (A:=L.take i) (ao:=mo) (cap:=mc) (base:=w.heap.size) (w:=wr) (by rw [hli];exact S.out.head)
    have Hhv:=x0r (ao:=mo) mc hv0 (by rw [List.length_map];exact hg0) (by rw [List.length_map,hli];have:=HN.out;omega)
    rw [List.length_map,hli] at Hhv
    have Hhv:=uH Hhv
    clear hv0 hg0 hli
    exact Hrest.out _ _ _ _ _ _ _ _ _ _ _ _ _ _ _ _ _ _ _ _ _ _ _ _ _ _ _ _ _ _ _ _ _ _ _ _ _ _ _ _ _ _ _ _ _ _ _ _ _ _ _ _ _ _ _ _ _ _ _ _ _ _ _ _ _ _ _ _ _ _ _ _ _ _ _ _ _ _ _ _ _ _ _ _ _ _ _ _ _ _ _ _ _ _ _ _ _ _ _ _ _ _ _ _ _ _ _ _ _ _ _ _ _ _ _ _ _ _ _ _ _ _ _ _ _ _ _ _ _ _ _ _ _ _ _ _ _ _ _ _ _ _ _ _ _ _ _ _ _ _ _ _ _ _ _ _ _ _ _ _ _ _ _ _ _ _ _ _ _ _ _ _ _ _ _ _ _ _ _ _ _ _ _ _ _ _ _ _ _ _ _ _ _ _ _ _ _ _ _ _ _ _ _ _ _ _ _ _ _ _ _ _ _ _ mo mc wr HBB Hhv HS
end G
namespace GatePlaysLift
open Go.ChangeShapes Go.WideShapes Go.ChangeAt Go.RowKit Go.Joins Go.Deep
open Go.ChangeMaps (open_string shut_string)
theorem own:ownKnob Tryz.prog.godebug=none:=by kernel_rfl
theorem laidOut:laidOutB Tryz.prog=true:=by kernel_rfl
set_option maxHeartbeats 1000000 in
set_option maxRecDepth 100000 in
theorem lifted (os:Os) (started:os.Started) (H:Type) (enc:TypeId × Value→H) :
 ReturnsInHanded {} Tryz.checked os 4 .any (Rows.gatePlaysSpec.pre6 enc Tryz.prog Tryz.f4 Rows.gatePlaysRow.domain false) (Rows.gatePlaysSpec.post enc Tryz.prog Tryz.f4 false true false false):=by
 refine returnsInHanded_of_change (C:=Tryz.checked) own started (by kernel_rfl) Tryz.func4
  (ChangeSpec.witness6 (enc:=enc) (C:=Tryz.checked) false ⟨#[],#[aI aK 0,aI aK 0,.slice none 0 0],[]⟩ 8 (by kernel_rfl) (by kernel_rfl) (by kernel_rfl) (by kernel_rfl)) ?_
 intro W base args ds gs before hval0 hW hcnd _
 have hval:∀ (j:Nat) t v,Tryz.f4.params[j]?=some t→args[j]?=some v→Value.okWide Tryz.prog W .any base t v:=hval0
 have hW':=hW
 obtain ⟨p,q,hA0,hV,rfl,hfz,hnd⟩:=hW
 have hA:DataW.TrodAll enc Tryz.prog W 0 (fun _=>true) true Tryz.f4.params.toList args.toList ds p:=hA0
 rw [Tryz.params4] at hA hval
 obtain ⟨v0,vs0,d0,ds0,p0,q0,hargs,rfl,rfl,h0,r0⟩:=trodAll_cons hA
 obtain ⟨v1,vs1,d1,ds1,p1,q1,rfl,rfl,rfl,h1,r1⟩:=trodAll_cons r0
 obtain ⟨v2,vs2,d2,ds2,p2,q2,rfl,rfl,rfl,h2,r2⟩:=trodAll_cons r1
 obtain ⟨rfl,rfl,rfl⟩:=trodAll_nil r2
 obtain rfl:args=#[v0,v1,v2]:=by cases args;simp_all
 obtain ⟨rfl,rfl⟩:=trodVars_none hV
 have k0:=h0
 have lt0:∀ x∈p0,x.block<W.heap.size:=by obtain ⟨m,hm⟩:=k0;exact DataW.trod_lt m _ _ _ hm
 have k1:=h1
 have lt1:∀ x∈p1,x.block<W.heap.size:=by obtain ⟨m,hm⟩:=k1;exact DataW.trod_lt m _ _ _ hm
 have k2:=h2
 have lt2:∀ x∈p2,x.block<W.heap.size:=by obtain ⟨m,hm⟩:=k2;exact DataW.trod_lt m _ _ _ hm
 have post:∀ e W',e=Ending.returned (aB true)→Below W.heap.size W W'→∃ v,e=.returned v∧Rows.gatePlaysSpec.post enc Tryz.prog Tryz.f4 false true false false W #[v0,v1,v2] v W':=by
  intro e W' he bel
  subst he
  exact ⟨_,rfl,_,_,_,[],_,[],hW',trodAll_mk1 (shut_bool Tryz.underlying4 _),(trodAll_cons_mk (Below.trod laidOut (by kernel_rfl) (of_decide_eq_true (by kernel_rfl)) k0 bel lt0) (trodAll_cons_mk (Below.trod laidOut (by kernel_rfl) (of_decide_eq_true (by kernel_rfl)) k1 bel lt1) (trodAll_cons_mk (Below.trod laidOut (by kernel_rfl) (of_decide_eq_true (by kernel_rfl)) k2 bel lt2) trodAll_mk0))),rfl,bel.frame _,fun h=>by cases h⟩
 clear hW' hcnd hfz hnd hA0 hA hval0
 obtain ⟨n0,rfl⟩:=okWide_int Tryz.underlying3 (hval 0 3 v0 rfl rfl)
 obtain ⟨n1,rfl⟩:=okWide_int Tryz.underlying3 (hval 1 3 v1 rfl rfl)
 obtain ⟨ao,cap,L,rfl,-,-,hAs⟩:=G.w0w (okWide_slice Tryz.underlying58 (hval 2 58 v2 rfl rfl)) h2
 exact (G.t0u n0 n1 ao L cap W hAs).mono fun e W' ⟨he,bel⟩=>post e W' he bel
theorem over:Rows.gatePlaysRow.holds Tryz.pinned (OpenSpec.ofChange Rows.gatePlaysSpec) :=
 OpenClaim.holds_of_wide 4 Tryz.f4 rfl rfl rfl rfl rfl rfl rfl ⟨rfl,rfl,rfl,rfl,rfl⟩ rfl rfl rfl rfl rfl (by kernel_rfl) Tryz.func4 (by kernel_rfl)
  (of_decide_eq_true (by kernel_rfl)) (by unfold Func.isWrapper;first | (rw [if_pos (by decide +kernel)];kernel_rfl) | (rw [if_neg (by decide +kernel)];exact ⟨rfl,rfl⟩))
  (fun os started H enc _=>lifted os started H enc)
end GatePlaysLift
theorem gatePlays_holds:Rows.GatePlaysSaid:=GatePlaysLift.over
#print axioms gatePlays_holds
end Go.Proofs.YtogamdaomdoapaaGreat
/-
  A part of what LawA rests on: the logic, walks and plain laws. No condition.
-/
import Derived.Test.YtkojjapnfdlddaaGreatJa4
import Derived.KernelRfl
import Derived.Test.YtkojjapnfdlddaaGreatRows
import Derived.WalkKit
import Derived.ProofKit
import Derived.OpenShut
import Derived.Lib.SmallJoins
import Derived.Deep.SlicePairs
import Derived.Deep.DeepHandedRow
namespace Go.Proofs.YtkojjapnfdlddaaGreat
open _root_.Go.Proofs.Tryz
open Go.RowKit
set_option linter.unusedVariables false
set_option linter.unusedSimpArgs false
set_option linter.unusedSectionVars false
set_option maxRecDepth 100000
noncomputable def onC (c:Nat) (t:List Nat):List Nat:=fz c fun c=>iB (Nat.beq c 0) t (c::t)
noncomputable def cC (s:Fs) (k id:Nat) (v w:Bool):Nat:=chC s (chC s id (Nat.mul 2 k) v) (Nat.succ (Nat.mul 2 k)) w
noncomputable def jnbC (s:Fs) (k x:Nat):Bool:=(Nat.beq (cC s k x false true) 0&&(Nat.beq (cC s k x true false) 0&&Nat.beq (cC s k x false false) (cC s k x true true)))||(Nat.beq (cC s k x false false) (cC s k x true false)&&Nat.beq (cC s k x false true) (cC s k x true true))
noncomputable def jnC (s:Fs) (k x:Nat) (t:List Nat):List Nat:=iB (Nat.beq (cC s k x false true) 0&&(Nat.beq (cC s k x true false) 0&&Nat.beq (cC s k x false false) (cC s k x true true))) (onC (cC s k x false false) t) (onC (cC s k x false false) (onC (cC s k x false true) t))
noncomputable def spC (s:Fs) (k:Nat) (v:Bool) (x:Nat) (t:List Nat):List Nat:=onC (cC s k x v false) (onC (cC s k x v true) t)
noncomputable def flC (g:Nat→List Nat→List Nat) (l:List Nat):List Nat:=List.rec (motive:=fun _=>List Nat) [] (fun x _ t=>g x t) l
noncomputable def allC (p:Nat→Bool) (l:List Nat):Bool:=List.rec (motive:=fun _=>Bool) true (fun x _ t=>iB (p x) t false) l
noncomputable def lenC (l:List Nat):Nat:=List.rec (motive:=fun _=>Nat) 0 (fun x _ t=>fz t fun t=>Nat.succ t) l
noncomputable def nilC {α:Type} (l:List Nat) (x y:α):α:=List.rec (motive:=fun _=>α) x (fun _ _ _=>y) l
noncomputable def rdC (s:Fs) (r:Nat):Nat→List Nat→Option (List Nat):=
 Nat.rec (motive:=fun _=>Nat→List Nat→Option (List Nat)) (fun k l=>nilC l (some []) (iB (Nat.ble (lenC l) 1000) (some [lenC l]) none))
  (fun r ih k l=>nilC l (some []) (iB (Nat.ble (lenC l) 1000) (iB (allC (jnbC s k) l) (ih (Nat.succ k) (flC (jnC s k) l)) (bO (ih (Nat.succ k) (flC (spC s k false) l)) fun a=>bO (ih (Nat.succ k) (flC (spC s k true) l)) fun b=>some (a++b))) none)) r
theorem lenC_eq:∀ l:List Nat,lenC l=l.length
 |[]=>rfl
 |x::l=>by show fz (lenC l) _=_;rw[Iq,lenC_eq l];rfl
theorem allC_eq (p:Nat→Bool):∀ l:List Nat,allC p l=l.all p
 |[]=>rfl
 |x::l=>by show iB (p x) (allC p l) false=_;rw[Cv,allC_eq p l,List.all_cons];cases p x<;>rfl
theorem nilC_eq {α:Type}(l:List Nat)(x y:α):nilC l x y=if l=[] then x else y:=by cases l<;>rfl
section
variable {N:Nat} {ns:Ns} {s:Fs} {bs:List Nat}
theorem Rs.cC (h:Rs N ns s)(k id:Nat)(v w:Bool):YtkojjapnfdlddaaGreat.cC s k id v w=cF ns k id v w:=by
 show chC s (chC s id (2*k) v) (2*k+1) w=_;rw[h.ch,h.ch];rfl
theorem nb_eq (a b:Nat):Nat.beq a b=(a==b):=by
 rw[Bool.eq_iff_iff,beq_iff_eq];exact nbeq
theorem Iu (c:Nat)(m:Md)(t:List Nat):onC c t=(onP m c).map Prod.snd++t:=by
 unfold onC onP;rw[Iq,Cv,nb_eq]
 by_cases e:c=0
 ·subst e;rfl
 ·rw[if_neg (by simpa using e),if_neg e];rfl
theorem jnbC_eq (h:Rs N ns s)(k:Nat)(x:Prt):jnbC s k x.2=jnB ns k x:=by
 unfold jnbC jnB;simp only[h.cC,nb_eq]
theorem jnC_eq (h:Rs N ns s)(k b:Nat)(x:Prt)(t:List Nat):jnC s k x.2 t=(jnF ns k b x).map Prod.snd++t:=by
 unfold jnC jnF;rw[Cv];simp only[h.cC,nb_eq,Bool.and_eq_true,beq_iff_eq]
 split
 ·exact Iu _ _ _
 ·rw[List.map_append,List.append_assoc,← Iu,← Iu]
theorem Jp (h:Rs N ns s)(k b:Nat)(v:Bool)(x:Prt)(t:List Nat):spC s k v x.2 t=(spF ns k b v x).map Prod.snd++t:=by
 unfold spC spF;simp only[h.cC];rw[List.map_append,List.append_assoc,← Iu,← Iu]
theorem Gx {g:Nat→List Nat→List Nat}{G:Prt→List Prt}(hg:∀ x t,g x.2 t=(G x).map Prod.snd++t):∀ l:List Prt,flC g (l.map Prod.snd)=(l.flatMap G).map Prod.snd
 |[]=>rfl
 |x::l=>by
  show g x.2 (flC g (l.map Prod.snd))=_;rw[hg,Gx hg l,List.flatMap_cons,List.map_append]
theorem all_jn (h:Rs N ns s)(k:Nat)(l:List Prt):allC (jnbC s k) (l.map Prod.snd)=l.all (jnB ns k):=by
 rw[allC_eq,List.all_map]
 congr 1
 funext x
 exact jnbC_eq h k x
theorem Jq (h:Rs N ns s)(bs:List Nat):∀ (r k:Nat) (p:Md) (l:List Prt) (L:List Nat),rdC s r k (l.map Prod.snd)=some L→(rsF ns bs r k p l).map (fun c=>c.2.length)=L
 |0,k,p,l,L,e=>by
  have e:nilC (l.map Prod.snd) (some []) (iB (Nat.ble (lenC (l.map Prod.snd)) 1000) (some [lenC (l.map Prod.snd)]) none)=some L:=e;rw[nilC_eq] at e;rw[rsF]
  by_cases h0:l=[]
  ·subst h0;simp at e ⊢;exact e
  ·rw[if_neg (by simpa using h0)] at e;rw[if_neg h0];rw[Cv] at e
   split at e
   ·rw[lenC_eq] at e;obtain rfl:=Option.some.inj e;simp
   ·cases e
 |r+1,k,p,l,L,e=>by
  have e:nilC (l.map Prod.snd) (some []) (iB (Nat.ble (lenC (l.map Prod.snd)) 1000) (iB (allC (jnbC s k) (l.map Prod.snd)) (rdC s r (k+1) (flC (jnC s k) (l.map Prod.snd))) (bO (rdC s r (k+1) (flC (spC s k false) (l.map Prod.snd))) fun a=>bO (rdC s r (k+1) (flC (spC s k true) (l.map Prod.snd))) fun b=>some (a++b))) none)=some L:=e;rw[nilC_eq] at e;rw[rsF]
  by_cases h0:l=[]
  ·subst h0;simp at e ⊢;exact e
  ·rw[if_neg (by simpa using h0),Cv] at e;rw[if_neg h0]
   split at e
   ·rw[Cv,all_jn h,Gx (jnC_eq h k (gd bs k)),Gx (Jp h k (gd bs k) false),Gx (Jp h k (gd bs k) true)] at e
    split
    ·rename_i hj;rw[if_pos hj] at e;exact Jq h bs r (k+1) p _ L e
    ·rename_i hj;rw[if_neg hj] at e;obtain⟨a,e1,e⟩:=Bg e;obtain⟨b,e2,e⟩:=Bg e;obtain rfl:=Option.some.inj e;rw[List.map_append,Jq h bs r (k+1) _ _ a e1,Jq h bs r (k+1) _ _ b e2]
   ·cases e
def QC (s:Fs) (bs:List Nat) (k:Nat) (p:Md) (l:List Prt):Prop:=∃ L,rdC s (bs.length - k) k (l.map Prod.snd)=some L
theorem rdC_nil (r k:Nat):rdC s r k []=some []:=by cases r<;>rfl
theorem rdC_few {r k:Nat}{l L:List Nat}(e:rdC s r k l=some L):l.length≤1000000:=by
 cases l with
 |nil=>simp
 |cons x l=>
  have h:∃ y,iB (Nat.ble (lenC (x::l)) 1000) y none=some L:=by cases r<;>exact⟨_,e⟩
  obtain⟨y,h⟩:=h;rw[Cv,lenC_eq] at h
  split at h
  ·rename_i h1;have:=Nat.le_of_ble_eq_true h1;omega
  ·cases h
theorem qc_bdd (h:Rs N ns s):Bdd ns bs (QC s bs):=by
 have key:∀ k (l:List Prt) L,k<bs.length→l≠[]→rdC s (bs.length - k) k (l.map Prod.snd)=some L→(iB (l.all (jnB ns k)) (rdC s (bs.length - (k+1)) (k+1) ((l.flatMap (jnF ns k (gd bs k))).map Prod.snd)) (bO (rdC s (bs.length - (k+1)) (k+1) ((l.flatMap (spF ns k (gd bs k) false)).map Prod.snd)) fun a=>bO (rdC s (bs.length - (k+1)) (k+1) ((l.flatMap (spF ns k (gd bs k) true)).map Prod.snd)) fun b=>some (a++b)))=some L:=by
  intro k l L hk h0 e;rw[show bs.length - k=(bs.length - (k+1))+1 by omega] at e;have e:nilC (l.map Prod.snd) (some []) (iB (Nat.ble (lenC (l.map Prod.snd)) 1000) (iB (allC (jnbC s k) (l.map Prod.snd)) (rdC s (bs.length - (k+1)) (k+1) (flC (jnC s k) (l.map Prod.snd))) (bO (rdC s (bs.length - (k+1)) (k+1) (flC (spC s k false) (l.map Prod.snd))) fun a=>bO (rdC s (bs.length - (k+1)) (k+1) (flC (spC s k true) (l.map Prod.snd))) fun b=>some (a++b))) none)=some L:=e;rw[nilC_eq,if_neg (by simpa using h0),Cv] at e
  split at e
  ·rw[all_jn h,Gx (jnC_eq h k (gd bs k)),Gx (Jp h k (gd bs k) false),Gx (Jp h k (gd bs k) true)] at e;exact e
  ·cases e
 refine⟨fun k p l ⟨L,e⟩=> ?_,fun k p l ⟨L,e⟩ hk hj=> ?_,fun k p l ⟨L,e⟩ hk hj v=> ?_⟩
 ·have:=rdC_few e;rwa [List.length_map] at this
 ·by_cases h0:l=[]
  ·subst h0;exact⟨[],rdC_nil _ _⟩
  ·have e2:=key k l L hk h0 e;rw[hj] at e2;exact⟨L,e2⟩
 ·by_cases h0:l=[]
  ·subst h0;exact⟨[],rdC_nil _ _⟩
  ·have e2:=key k l L hk h0 e;rw[hj] at e2;obtain⟨a,e3,e4⟩:=Bg (show bO _ _=some L from e2);obtain⟨b,e5,_⟩:=Bg e4;cases v
   ·exact⟨a,e3⟩
   ·exact⟨b,e5⟩
end
def bsE:List Nat:=[0,1,2,3,4,5,6,7,8,9,10,11,12,13,14,15,16,17,18,19,20,21,22,23,24,25,26,27,28,29,30,31,33,34,35]
abbrev exD:Fd:=⟨⟨#[100,115,116]⟩,16,8⟩
abbrev exK:Fd:=⟨⟨#[107,105,110,100]⟩,33,3⟩
theorem raw_ex:rawF (portFd::exF)=bsE:=by kernel_rfl
theorem Iv:bsF exF=bsE:=by
 unfold bsF;rw[raw_ex];refine List.mergeSort_of_pairwise ?_;have:(bsE.Pairwise fun x y=>x≤y):=by unfold bsE;decide
 exact this.imp fun h=>decide_eq_true h
theorem Ju:FlOk exF:=by
 refine⟨fun f hf=> ?_,by unfold exF;simp,by decide⟩;simp only[exF,List.mem_cons,List.not_mem_nil,or_false] at hf;rcases hf with rfl|rfl|rfl<;>exact⟨⟨by decide,by decide,by decide,by decide⟩,by decide,by decide⟩
theorem Gy:BsOk bsE:=Iv ▸ Hu Ju
theorem inD:FIn bsE exD:=Iv ▸ Hv Ju (by unfold exF;simp)
theorem inK:FIn bsE exK:=Iv ▸ Hv Ju (by unfold exF;simp)
def trE:List Nat:=[2,3,4,5,6,7,8,9,10,11,12,13,14,15,16,17,18,19,20,21,22,23,24,25,26,27,28,29,30,31,32,33,34,35,36,37,38,39,40,41,42,43,44,45,46,47,48,49,50,51,52,53,54,55,56,57,58,59,60,61,62,63,64,65,66,67,68,69,70,71,72,73,74,75,76,77,78,79,80,81,82,83,84,85,86,87,88,89,90,91,92,93,94,95,96,97,98,2,3,4,5,6,7,8,9,10,11,12,13,14,15,16,17,18,19,20,21,22,23,24,25,26,27,28,29,30,31,32,33,34,35,36,99,100,101,102,103,104,105,106,107,108,109,110,111,112,113,114,115,116,117,118,119,120,121,122,123,124,125,126,127,128,129,130,131,132,133,134,135,136,137,138,139,140,141,142,143,144,145,146,147,148,149,150,151,152,153,154,155,156,157,158,159,160,2,3,4,5,6,7,8,9,10,11,12,13,14,15,16,17,18,19,20,21,22,23,24,25,26,27,28,29,30,31,32,33,34,35,35,100,100,101,101,103,103,105,105,107,107,109,109,111,111,113,114,115,116,117,118,119,120,121,122,123,124,125,126,127,128,129,130,131,132,133,134,135,136,137,138,139,140,141,142,143,144,145,146,147,148,149,150,151,152,153,154,155,156,157,158,159,160,2,3,4,5,6,7,8,9,10,11,12,13,14,15,16,17,18,19,20,21,22,23,24,25,26,27,28,29,30,31,32,33,34,35,36,99,100,101,102,103,104,105,106,107,108,109,110,111,112,113,114,115,116,117,118,119,120,121,122,123,124,125,126,127,128,129,130,131,132,133,134,135,136,137,138,139,140,141,142,143,144,145,146,147,148,149,150,151,152,153,154,155,156,157,158,159,160,161,162,163,164,165,166,167,168,2,3,4,5,6,7,8,9,10,11,12,13,14,15,16,17,18,19,20,21,22,23,24,25,26,27,28,29,30,31,32,33,34,35,36,169,170,171,172,173,174,175,176,177,178,179,180,181,182,183,184,185,186,187,188,189,190,191,192,193,194,195,196,197,198,199,200,201,202,203,204,205,206,207,208,209,210,211,212,213,214,215,216,217,218,219,220,221,222,223,224,225,226,227,228,229,230,231,232,233,234,235,236,237,238,239,240,241,242,243,244,245,246,247,248,249,250,251,252,253,254,255,256,257,258,259,260,261,262,263,264,265,266,267,268,269,270,271,272,273,274,275,276,277,278,279,280,281,282,283,284,285,286,287,288,289,290,291,292,293,294,295,296,297,298,299,300,301,161,162,163,164,165,166,167,168,302,303,304,305,306,307,308,309,2,3,4,5,6,7,8,9,10,11,12,13,14,15,16,17,18,19,20,21,22,23,24,25,26,27,28,29,30,31,32,33,34,35,36,169,170,171,172,173,174,175,176,177,178,179,180,181,182,183,184,185,186,187,188,189,190,191,192,193,194,195,196,197,198,199,200,201,202,203,204,205,206,207,208,209,210,211,212,213,214,215,216,217,218,219,220,221,222,223,224,225,226,227,228,229,230,231,232,233,234,235,236,237,238,310,311,312,313,314,315,316,317,318,319,320,321,322,323,324,325,326,327,328,329,330,331,332,333,334,335,336,337,338,339,340,341,342,343,344,345,346,347,348,349,350,351,352,353,354,355,356,357,358,359,360,361,362,363,364,365,366,367,368,369,370,371,372,169,170,172,173,175,176,178,179,181,182,184,185,187,188,190,191,192,193,194,195,196,197,198,199,200,201,202,203,204,205,206,207,208,209,210,211,212,213,214,215,216,217,218,219,220,221,222,223,224,225,226,227,228,229,230,231,232,233,234,235,236,237,238,2,3,4,5,6,7,8,9,10,11,12,13,14,15,16,17,18,19,20,21,22,23,24,25,26,27,28,29,30,31,32,33,34,35,36,169,170,171,172,173,174,175,176,177,178,179,180,181,182,183,184,185,186,187,188,189,190,191,192,193,194,195,196,197,198,199,200,201,202,203,204,205,206,207,208,209,210,211,212,213,214,215,216,217,218,219,220,221,222,223,224,225,226,227,228,229,230,231,232,233,234,235,236,237,238,2,3,373,374,375,376,377,378,379,380,381,382,383,384,385,386,387,388,389,390,391,392,393,394,395,396,397,398,399,400,401,402,403,404,405,406,407,408,409,410,411,412,413,414,415,416,417,418,419,420,421,422,423,424,425,426,427,428,429,430,431,432,433,434,435,436,437,438,439,440,441,442,443,444,445,446,447,448,449,450,451,452,453,454,455,456,457,458,459,460,461,462,463,464,465,466,467,468,469,470,471,472,2,3,473,474,475,476,477,478,479,480,481,482,483,484,485,486,487,488,489,490,491,492,493,494,495,496,497,498,499,500,501,502,503,504,505,506,507,508,509,510,511,512,513,514,515,516,517,518,519,520,521,522,523,524,525,526,527,528,529,530,531,532,533,534,535,536,537,538,539,540,541,542,543,544,545,546,547,548,549,550,551,552,553,554,555,556,557,558,559,560,561,562,563,564,565,566,567,568,569,570,571,572,573,574,575,576,577,578,579,580,581,582,583,584,585,586,587,588,589,590,591,592,593,594,595,596,597,598,599,600,601,602,603,604,605,606,607,608,609,610,611,612,613,614,615,616,617,618,619,620,621,622,623,624,625,626,627,628,629,630,631,632,633,634,635,636,637,638,639,640,641,642,643,644,645,646,647,648,649,650,651,652,653,654,655,656,657,658,659,660,661,662,663,664,665,666,667,668,669,670,2,3,4,5,6,7,8,9,10,11,12,13,14,15,16,17,18,19,20,21,22,23,24,25,26,27,28,29,30,31,32,33,34,35,36,169,170,171,172,173,174,175,176,177,178,179,180,181,182,183,184,185,186,187,188,189,190,191,192,193,194,195,196,197,198,199,200,201,202,203,204,205,206,207,208,209,210,211,212,213,214,215,216,217,218,219,220,221,222,223,224,225,226,227,228,229,230,231,232,233,234,235,236,237,238,671,672,673,674,675,676,677,678,679,680,681,682,683,684,685,686,687,688,689,690,691,692,693,694,695,696,697,698,699,700,701,702,703,704,705,706,707,708,709,710,711,712,713,714,715,716,717,718,719,720,721,722,723,724,725,726,727,728,729,730,731,732,733,734,735,736,737,738,739,740,741,742,743,744,745,746,747,748,749,750,751,752,753,754,755,756,757,758,759,760,761,762,763,764,765,766,767,768,769,770,771,772,773,774,3,671,3,3,671,2,2,2,2,672,3,3,3,3,2,2,2,673,673,674,675,676,573,573,3,3,2,2,573,573,2,3,4,5,6,7,677,678,679,680,681,682,683,684,685,686,687,688,689,690,691,692,693,694,695,696,697,698,699,700,701,702,703,704,705,706,707,708,709,710,711,712,713,714,715,716,717,718,719,720,721,722,723,724,725,726,727,728,729,730,731,732,733,734,735,736,737,738,739,740,741,742,743,744,745,746,747,748,749,750,751,752,753,754,755,756,757,758,759,760,761,762,763,764,765,766,767,768,769,770,771,772,773,774,161,775,776,777,778,779,780,781,2,3,4,5,6,7,8,9,10,11,12,13,14,15,16,17,18,19,20,21,22,23,24,25,26,27,28,29,30,31,32,33,34,35,36,169,170,171,172,173,174,175,176,177,178,179,180,181,182,183,184,185,186,187,188,189,190,191,192,193,194,195,196,197,198,199,200,201,202,203,204,205,206,207,208,209,210,211,212,213,214,215,216,217,218,219,220,221,222,223,224,225,226,227,228,229,230,231,232,233,234,235,236,237,238,239,782,783,784,785,786,787,788,789,790,791,792,793,794,795,796,797,798,799,800,801,802,803,804,805,806,807,808,809,810,811,812,813,814,815,816,817,818,819,820,821,822,823,824,825,826,827,828,829,830,831,832,833,834,835,836,837,838,839,840,841,842,843,161,775,776,777,778,779,780,781,2,3,4,5,6,7,8,9,10,11,12,13,14,15,16,17,18,19,20,21,22,23,24,25,26,27,28,29,30,31,32,33,34,35,36,169,170,171,172,173,174,175,176,177,178,179,180,181,182,183,184,185,186,187,188,189,190,191,192,193,194,195,196,197,198,199,200,201,202,203,204,205,206,207,208,209,210,211,212,213,214,215,216,217,218,219,220,221,222,223,224,225,226,227,228,229,230,231,232,233,234,235,236,237,238,239,782,783,784,785,786,787,788,789,790,791,792,793,794,795,796,797,798,799,800,801,802,803,804,805,806,807,808,809,810,811,812,813,814,815,816,817,818,819,820,821,822,823,824,825,826,827,828,829,830,831,832,833,834,835,836,837,838,839,840,841,842,843,2,3,373,374,375,376,377,378,379,380,381,382,383,384,385,386,387,388,389,390,391,392,393,394,395,396,397,398,399,400,401,402,403,404,405,406,407,408,409,410,411,412,413,414,415,416,417,418,419,420,421,422,423,424,425,426,427,428,429,430,431,432,433,434,435,436,437,438,439,440,441,442,443,444,445,446,447,448,449,450,451,452,453,454,455,456,457,458,459,460,461,462,463,464,465,466,467,468,469,470,471,472,2,3,473,474,475,476,477,478,479,480,481,482,483,484,485,486,487,488,489,490,491,492,493,494,495,496,497,498,499,500,501,502,503,504,505,506,507,508,509,510,511,512,513,514,515,516,517,518,519,520,521,522,523,524,525,526,527,528,529,530,531,532,533,534,535,536,537,538,539,540,541,542,543,544,545,546,547,548,549,550,551,552,553,554,555,556,557,558,559,560,561,562,563,564,565,566,567,568,569,570,571,572,573,574,575,576,577,578,579,580,581,582,583,584,585,586,587,588,589,590,591,592,593,594,595,596,597,598,599,600,601,602,603,604,605,606,607,608,609,610,611,612,613,614,615,616,617,618,619,620,621,622,623,624,625,626,627,628,629,630,631,632,633,634,635,636,637,638,639,640,641,642,643,644,645,646,647,648,649,650,651,652,653,654,655,656,657,658,659,660,661,662,663,664,665,666,667,668,669,670,3,3,2,2,573,573,574,574,575,576,577,578,579,580,581,582,583,584,585,586,587,588,589,590,591,592,593,594,595,596,597,598,600,844,845,846,847,848,849,850,851,852,853,854,855,856,857,858,859,860,861,862,863,864,865,866,867,868,869,870,871,872,873,874,875,876,877,878,879,880,881,882,883,884,885,886,887,888,889,890,891,892,893,894,895,896,897,898,899,900,901,902,903,904,905,906]
def sE:Fs:=⟨4810363371590,2,0,trE⟩
abbrev Q1:Po:= .seq (.set exD 1) (.set exD 2)
abbrev Q2:Po:= .set exD 2
abbrev Q3:Po:= .uni (.fil (.eq exD 1)) (.fil (.no (.eq exD 1)))
abbrev Q4:Po:= .fil .tru
abbrev Q5:Po:= .star (.uni (.set exK 1) (.set exK 2))
abbrev Q6:Po:= .fil (.eq exD 3)
abbrev Q7:Po:= .seq (.fil (.eq exD 3)) (.uni (.set exK 1) (.set exK 2))
theorem rs0:Rs 70 (nsE 70) sE:=⟨J7 70,rfl,by show 4810363371590<2 ^ (36*2);decide,fun i=>by
  match i with
  |0=>rfl
  |1=>rfl
  |i+2=>
   rw[gN_eq,Nat.div_eq_of_lt]
   ·rfl
   ·have:2 ^ (36*2)≤2 ^ (36*(i+2)):=Nat.pow_le_pow_right qde qom;exact Nat.lt_of_lt_of_le (by show 4810363371590<2 ^ (36*2);decide) this,fun i=>by
  match i with
  |0=>decide
  |1=>decide
  |i+2=>exact⟨by show (0:Nat)<128;decide,by show (0:Nat)<16384;decide,by show (0:Nat)<16384;decide⟩,fun x hx=>by cases hx⟩
noncomputable def runE:Option (List Nat × List Nat):=bO (polC 70 bsE (rdN bsE) Q1 sE) fun a=>bO (polC 70 bsE (rdN bsE) Q2 a.2) fun b=>bO (polC 70 bsE (rdN bsE) Q3 b.2) fun c=>bO (polC 70 bsE (rdN bsE) Q4 c.2) fun d=>bO (polC 70 bsE (rdN bsE) Q5 d.2) fun e=>bO (polC 70 bsE (rdN bsE) Q6 e.2) fun f=>bO (polC 70 bsE (rdN bsE) Q7 f.2) fun g=>bO (rdC g.2 35 0 [g.1]) fun L=>some ([a.1,b.1,c.1,d.1,e.1,f.1,g.1],L)
theorem run_ex:runE=some ([160,160,238,238,774,843,906],[2]):=by kernel_rfl
abbrev hk1:Hd:=[0,0,4096,0,0,0,0,0,0,0]
abbrev hk2:Hd:=[0,0,8192,0,0,0,0,0,0,0]
theorem ex_all:∃ n1 n2 n3 n4 n5 n6 n7 s7,polF 200000 bsE 0 (rdN bsE) Q1 (nsE 70)=some (160,n1)∧polF 200000 bsE 0 (rdN bsE) Q2 n1=some (160,n2)∧polF 200000 bsE 0 (rdN bsE) Q3 n2=some (238,n3)∧polF 200000 bsE 0 (rdN bsE) Q4 n3=some (238,n4)∧polF 200000 bsE 0 (rdN bsE) Q5 n4=some (774,n5)∧polF 200000 bsE 0 (rdN bsE) Q6 n5=some (843,n6)∧polF 200000 bsE 0 (rdN bsE) Q7 n6=some (906,n7)∧Rs 70 n7 s7∧rdC s7 35 0 [906]=some [2]:=by
 have h:=run_ex;unfold runE at h;obtain⟨⟨a,s1⟩,h1,h⟩:=Bg h;obtain⟨⟨b,s2⟩,h2,h⟩:=Bg h;obtain⟨⟨c,s3⟩,h3,h⟩:=Bg h;obtain⟨⟨d,s4⟩,h4,h⟩:=Bg h;obtain⟨⟨e,s5⟩,h5,h⟩:=Bg h;obtain⟨⟨f,s6⟩,h6,h⟩:=Bg h;obtain⟨⟨g,s7⟩,h7,h⟩:=Bg h;obtain⟨L,h8,h⟩:=Bg h
 dsimp only at h1 h2 h3 h4 h5 h6 h7 h8 h
 have h9:=Option.some.inj h;simp only[Prod.mk.injEq,List.cons.injEq,and_true] at h9;obtain⟨⟨rfl,rfl,rfl,rfl,rfl,rfl,rfl⟩,rfl⟩:=h9;obtain⟨n1,f1,r1⟩:=C3 (most:=200000) qom qom 0 _ _ rs0 h1;obtain⟨n2,f2,r2⟩:=C3 (most:=200000) qom qom 0 _ _ r1 h2;obtain⟨n3,f3,r3⟩:=C3 (most:=200000) qom qom 0 _ _ r2 h3;obtain⟨n4,f4,r4⟩:=C3 (most:=200000) qom qom 0 _ _ r3 h4;obtain⟨n5,f5,r5⟩:=C3 (most:=200000) qom qom 0 _ _ r4 h5;obtain⟨n6,f6,r6⟩:=C3 (most:=200000) qom qom 0 _ _ r5 h6;obtain⟨n7,f7,r7⟩:=C3 (most:=200000) qom qom 0 _ _ r6 h7;exact⟨n1,n2,n3,n4,n5,n6,n7,s7,f1,f2,f3,f4,f5,f6,f7,r7,h8⟩
theorem fs1:fset exK hd0 1=hk1:=by kernel_rfl
theorem fs2:fset exK hd0 2=hk2:=by kernel_rfl
theorem fg0:fget exD hd0=0:=by kernel_rfl
theorem bit2 (w b:Nat):hbit [0,0,w,0,0,0,0,0,0,0] b=if b / 16=2 then w.testBit (15 - b % 16) else false:=by
 have h:∀ i,gd ([0,0,w,0,0,0,0,0,0,0]:List Nat) i=if i=2 then w else 0:=fun i=>by
  match i with
  |0=>rfl
  |1=>rfl
  |2=>rfl
  |3=>rfl
  |4=>rfl
  |5=>rfl
  |6=>rfl
  |7=>rfl
  |8=>rfl
  |9=>rfl
  |i+10=>rw[if_neg qom];rfl
 unfold hbit;rw[h]
 split
 ·rfl
 ·simp
theorem lt01:hLt hd0 hk1:=⟨35,by decide,fun j hj=>by
 rw[Ia,bit2]
 split
 ·rename_i e;have h:j=32∨j=33∨j=34:=by omega
  rcases h with rfl|rfl|rfl<;>decide
 ·rfl,Ia _,by rw[bit2];decide⟩
theorem lt12:hLt hk1 hk2:=⟨34,by decide,fun j hj=>by
 rw[bit2,bit2]
 split
 ·have h:j=32∨j=33:=by omega
  rcases h with rfl|rfl<;>decide
 ·rfl,by rw[bit2];decide,by rw[bit2];decide⟩
theorem den5 (g:Hd):den 0 Q5 hd0 g↔g=hd0∨g=hk1∨g=hk2:=by
 show Cl' (fun h g=>den 0 (.set exK 1) h g∨den 0 (.set exK 2) h g) hd0 g↔_;simp only[den]
 constructor
 ·intro a;have key:∀ {h g:Hd},Cl' (fun h g=>g=fset exK h 1∨g=fset exK h 2) h g→g=h∨g=fset exK h 1∨g=fset exK h 2:=by
   intro h g a
   induction a with
   |base=>exact .inl rfl
   | @step h m g a _ ih=>
    rcases a with rfl|rfl
    ·rcases ih with rfl|rfl|rfl
     ·exact .inr (.inl U)
     ·exact .inr (.inl Gk)
     ·exact .inr (.inr Gk)
    ·rcases ih with rfl|rfl|rfl
     ·exact .inr (.inr U)
     ·exact .inr (.inl Gk)
     ·exact .inr (.inr Gk)
  have:=key a
  rwa [fs1,fs2] at this
 ·rintro(rfl|rfl|rfl)
  ·exact .base _
  ·exact .one (.inl fs1.symm)
  ·exact .one (.inr fs2.symm)
structure ExOk (ns:Ns):Prop where
 w:Wf 70 ns
 len:906<ns.length
 ev5:evA' ns bsE hd0 774=[hd0,hk1,hk2]
 ev6:evA' ns bsE hd0 843=[]
 df:dfH ns bsE 843 238=hd0
 g4:gvF ns (xh bsE hd0) 238=true
 g6:gvF ns (xh bsE hd0) 843=false
theorem ex_fin {n1 n2 n3 n4 n5 n6 n7:Ns}(f1:polF 200000 bsE 0 (rdN bsE) Q1 (nsE 70)=some (160,n1))(f2:polF 200000 bsE 0 (rdN bsE) Q2 n1=some (160,n2))(f3:polF 200000 bsE 0 (rdN bsE) Q3 n2=some (238,n3))(f4:polF 200000 bsE 0 (rdN bsE) Q4 n3=some (238,n4))(f5:polF 200000 bsE 0 (rdN bsE) Q5 n4=some (774,n5))(f6:polF 200000 bsE 0 (rdN bsE) Q6 n5=some (843,n6))(f7:polF 200000 bsE 0 (rdN bsE) Q7 n6=some (906,n7)):ExOk n7:=by
 have hb:=Gy;have d1:(1:Nat)<2 ^ exD.w:=by decide
 have d2:(2:Nat)<2 ^ exD.w:=by decide
 have d3:(3:Nat)<2 ^ exD.w:=by decide
 have k1:(1:Nat)<2 ^ exK.w:=by decide
 have k2:(2:Nat)<2 ^ exK.w:=by decide
 have F1:Q1.Fit bsE:=⟨⟨inD,d1⟩,inD,d2⟩;have F2:Q2.Fit bsE:=⟨inD,d2⟩;have F3:Q3.Fit bsE:=⟨⟨inD,d1⟩,inD,d1⟩;have F4:Q4.Fit bsE:=trivial;have F5:Q5.Fit bsE:=⟨⟨inK,k1⟩,inK,k2⟩;have F6:Q6.Fit bsE:=⟨inD,d3⟩;have F7:Q7.Fit bsE:=⟨⟨inD,d3⟩,⟨inK,k1⟩,inK,k2⟩;obtain⟨g1,l1,r1⟩:=Cm hb 0 _ Q1 F1 (J7 70) f1;obtain⟨g2,l2,r2⟩:=Cm hb 0 _ Q2 F2 g1.w f2;obtain⟨g3,l3,r3⟩:=Cm hb 0 _ Q3 F3 g2.w f3;obtain⟨g4,l4,r4⟩:=Cm hb 0 _ Q4 F4 g3.w f4;obtain⟨g5,l5,r5⟩:=Cm hb 0 _ Q5 F5 g4.w f5;obtain⟨g6,l6,r6⟩:=Cm hb 0 _ Q6 F6 g5.w f6;obtain⟨g7,l7,r7⟩:=Cm hb 0 _ Q7 F7 g6.w f7;have R4:=r4.gr g4.w l4 (g5.trans (g6.trans g7));have R5:=r5.gr g5.w l5 (g6.trans g7);have R6:=r6.gr g6.w l6 g7;have L4:=Nat.lt_of_lt_of_le l4 (g5.trans (g6.trans g7)).le;have L5:=Nat.lt_of_lt_of_le l5 (g6.trans g7).le;have L6:=Nat.lt_of_lt_of_le l6 g7.le;have O4:∀ {h g:Hd},HdOk h→den 0 Q4 h g→HdOk g∧Out bsE h g:=fun h1 h2=>Dl F4 h1 h2
 have O5:∀ {h g:Hd},HdOk h→den 0 Q5 h g→HdOk g∧Out bsE h g:=fun h1 h2=>Dl F5 h1 h2
 have O6:∀ {h g:Hd},HdOk h→den 0 Q6 h g→HdOk g∧Out bsE h g:=fun h1 h2=>Dl F6 h1 h2
 have n6:∀ g,¬ den 0 Q6 hd0 g:=fun g ⟨_,e⟩=>by
  have e:(fget exD hd0==3)=true:=e;rw[fg0] at e;cases e
 refine⟨g7.w,l7,?_,?_,?_,?_,?_⟩
 ·refine sorted_eq (evA_up hb g7.w Ce L5) ?_ fun f=> ?_
  ·exact .cons (fun x hx=>by simp only[List.mem_cons,List.not_mem_nil,or_false] at hx;rcases hx with rfl|rfl;exact lt01;exact lt01.trans lt12) (.cons (fun x hx=>by simp only[List.mem_cons,List.not_mem_nil,or_false] at hx;subst hx;exact lt12) (List.pairwise_singleton ..))
  ·rw[evA_mem hb g7.w Ce L5 R5 O5,den5];simp
 ·refine List.eq_nil_iff_forall_not_mem.2 fun f hf=>n6 f ((evA_mem hb g7.w Ce L6 R6 O6 f).1 hf)
 ·unfold dfH;rw[if_neg qom];obtain⟨e1,e2⟩:=differ_ok hb g7.w L6 L4 qom R6 R4 O6 O4;have hdh:HdOk (dhF n7 bsE 843 238):=by
   unfold dhF bhF;exact Cr _
  rcases hLt_or hdh Ce with h|h|h
  ·obtain⟨i,hi,_,_,t⟩:=h;rw[Ia] at t;cases t
  ·exact h
  ·have:=(e2 hd0 Ce h hd0).2 ⟨rfl,rfl⟩;exact(n6 _ this).elim
 ·exact(gv_rep hb g7.w Ce L4 R4 O4).2 ⟨hd0,rfl,rfl⟩
 ·refine Bool.eq_false_iff.2 fun e=> ?_
  obtain⟨g,hg⟩:=(gv_rep hb g7.w Ce L6 R6 O6).1 e;exact n6 g hg
theorem ex_rules {ns:Ns}{s:Fs}(h:Rs 70 ns s)(e:rdC s 35 0 [906]=some [2]):(rulesP ns bsE 906).map (fun c=>c.2.length)=[2]:=by
 unfold rulesP;rw[if_neg qde];have h1:=Jq h bsE 35 0 (hd0,hd0) [pt0 906] [2] e;unfold rsP;rw[List.map_map];have h2:((fun c:Md × List Md=>c.2.length) ∘ fun c:Md × List Md=>(c.1,srtM c.2))=fun c:Md × List Md=>c.2.length:=by
  funext c
  show (srtM c.2).length=_;unfold srtM;rw[List.length_mergeSort]
 refine Eq.trans ?_ h1;exact congrFun (congrArg List.map h2) _
abbrev nD:ByteArray:=⟨#[100,115,116]⟩
abbrev nK:ByteArray:=⟨#[107,105,110,100]⟩
abbrev mSet (nm:ByteArray) (n:Int):Pom:= .mk 2 pd0 nm n none 0 []
abbrev mFil (m:Pdm):Pom:= .mk 1 m ⟨#[]⟩ 0 none 0 []
abbrev mEq (nm:ByteArray) (n:Int):Pdm:= .mk 3 nm n 0 none 0 []
abbrev mNo (b:Nat) (m:Pdm):Pdm:= .mk 6 ⟨#[]⟩ 0 0 (some ⟨b,0,none⟩) 1 [m]
abbrev mTru:Pdm:= .mk 1 ⟨#[]⟩ 0 0 none 0 []
abbrev mOp2 (k:Int) (b:Nat) (x y:Pom):Pom:= .mk k pd0 ⟨#[]⟩ 0 (some ⟨b,0,none⟩) 2 [x,y]
abbrev mOp1 (k:Int) (b:Nat) (x:Pom):Pom:= .mk k pd0 ⟨#[]⟩ 0 (some ⟨b,0,none⟩) 1 [x]
section
variable {w0:World} {H R:List (Nat × Obj)}
theorem Iw {k:Int}{b:Nat}{x y:Pom}(hf:Fnd R b (Cl (encPo x++encPo y) 28))(hx:PoM w0 R x)(hy:PoM w0 R y):PoM w0 R (mOp2 k b x y):= .mk Fk (arrPo2 hf) fun a ha=>by
 simp only[List.mem_cons,List.not_mem_nil,or_false] at ha;rcases ha with rfl|rfl
 ·exact hx
 ·exact hy
theorem po_op1 {k:Int}{b:Nat}{x:Pom}(hf:Fnd R b (Cl (encPo x) 28))(hx:PoM w0 R x):PoM w0 R (mOp1 k b x):= .mk Fk (arrPo1 hf) fun a ha=>by
 simp only[List.mem_singleton] at ha;subst ha;exact hx
theorem Jv {k:Int}{s:ByteArray}{v t:Int}:PdM w0 R (.mk k s v t none 0 []):= .mk (fun i u hi=>by simp at hi) (fun a ha=>by simp at ha)
theorem arrPd1 {n:Nat}{a:Pdm}{t:TypeId}(hf:Fnd R n (Cl (encPd a) t)):Arr w0 R (some ⟨n,0,none⟩) 5 encPd [a]:=fun j x hj=>by
 refine⟨rfl,fun k v hk=> ?_⟩
 match j,hj with
 |0,hj=>
  have:a=x:=by simpa using hj
  subst this;exact Df hf (by show (encPd a)[0+0*5+k]? =some v;rw[show (0:Nat)+0*5+k=k by omega];exact hk)
theorem pd_no {b:Nat}{m:Pdm}(hf:Fnd R b (Cl (encPd m) 25))(hx:PdM w0 R m):PdM w0 R (mNo b m):= .mk (arrPd1 hf) fun a ha=>by
 simp only[List.mem_singleton] at ha;subst ha;exact hx
theorem fndD:(fndFd exF nD).1=exD:=by kernel_rfl
theorem fndK:(fndFd exF nK).1=exK:=by kernel_rfl
theorem Hy {nm:ByteArray}{n:Nat}{f:Fd}(h:(fndFd exF nm).1=f):IsO exF (mSet nm n) (.set f n):=h ▸ .set U U
theorem J6 {nm:ByteArray}{n:Nat}{f:Fd}(h:(fndFd exF nm).1=f):IsP exF (mEq nm n) (.eq f n):=h ▸ .eq U U
theorem pin (n:Nat)(h:n<4):(n:Nat)<2 ^ exD.w∧n<2 ^ exK.w:=⟨by show n<2 ^ 8;omega,by show n<2 ^ 3;omega⟩
structure ExD (w0:World) (R:List (Nat × Obj)) (D:Sd):Prop where
 bs:D.bs=bsE
 mo:D.most=200000
 en:En w0 R D exF
theorem ExD.mono {R':List (Nat × Obj)}{D:Sd}(h:ExD w0 R D)(hs:R.Sublist R'):ExD w0 R' D:=⟨h.bs,h.mo,h.en.mono hs⟩
theorem new_ex {b:Nat}:FSpec Tryz.prog w0 13 #[.slice (some ⟨b,0,none⟩) 3 3, .int .i64 200000] ((b,Cl (exF.flatMap encF) 67)::H) (fun u H'=>∃ (D:Sd) (v:Sv) (R:List (Nat × Obj)),(u= .pointer (some ⟨D.p,0,none⟩)∧StOk D v (nsE 70)∧ExD w0 R D∧H.Sublist R)∧H'=SM D v (nsE 70)++R):=by
 have hA:Arr w0 ((b,Cl (exF.flatMap encF) 67)::H) (some ⟨b,0,none⟩) 3 encF exF:=Cz (w0:=w0) (e:=67) (X:=H) (enc:=encF) (d:= .blk b 3 []) (fun _=>rfl) ⟨Nat.le_refl _,rfl⟩;intro w hO;refine(new_s exF Ju (some ⟨b,0,none⟩) 3 hA 200000 qom w hO).mono ?_;rintro e w' ⟨u,H',he,hO',⟨dx,db,p,mp,v⟩,⟨rfl,hdx,hdb,hst⟩,rfl⟩;have hN:nsE (2*(bsF exF).length)=nsE 70:=by rw[Iv];rfl
 dsimp only at *
 rw[hN] at hst hO';exact⟨_,_,he,hO',NewD exF 200000 dx db p mp,v,slH db ((bsF exF).flatMap encB1) 3++(slH dx (exF.flatMap encF) 67++((b,Cl (exF.flatMap encF) 67)::H)),⟨rfl,hst,⟨Iv,rfl,en_new Ju hdx hdb 200000 p mp⟩,by exact sbt⟩,rfl⟩
abbrev PxK (D:Sd) (id:Nat) (ns:Ns) (R:List (Nat × Obj)):Value→List (Nat × Obj)→Prop:=fun u H'=>∃ v:Sv,(u= .tuple #[.int .i64 (id:Nat), .int .i64 0]∧StOk D v ns)∧H'=SM D v ns++R
theorem px_of {f:FuncId}{args:Array Value}{D:Sd}{v:Sv}{ns ns':Ns}{id:Nat}{p:Po}(hD:ExD w0 R D)(hf:polF 200000 bsE 0 (rdN bsE) p ns=some (id,ns'))(h:FSpec Tryz.prog w0 f args (SM D v ns++R) (TryK D (polF D.most.toNat D.bs 0 (rdN D.bs) p ns) ns R)):FSpec Tryz.prog w0 f args (SM D v ns++R) (PxK D id ns' R):=by
 rw[hD.bs,hD.mo] at h;rw[show ((200000:Int)).toNat=200000 from rfl,hf] at h;intro w hO;refine(h w hO).mono ?_;rintro e w' ⟨u,H',he,hO',⟨id1,e1,v1,ns1⟩,⟨rfl,hc,hst1⟩,rfl⟩
 dsimp only at *
 rcases hc with ⟨h1,rfl⟩|⟨h1,_⟩
 ·obtain⟨rfl,rfl⟩:=Prod.mk.inj (Option.some.inj h1);exact⟨_,_,he,hO',v1,⟨rfl,hst1⟩,rfl⟩
 ·cases h1
theorem Jr {D:Sd}{v:Sv}{ns ns':Ns}{id:Nat}{p:Po}(hst:StOk D v ns)(hD:ExD w0 R D)(hf:polF 200000 bsE 0 (rdN bsE) p ns=some (id,ns'))(m:Pom)(hI:IsO exF m p)(hM:PoM w0 R m)(hF:p.Fit bsE):FSpec Tryz.prog w0 14 #[.pointer (some ⟨D.p,0,none⟩), .agg (encPo m).toArray, .int .i64 0] (SM D v ns++R) (PxK D id ns' R):=px_of hD hf (Fv hst hD.en m p hI (hD.bs ▸ hF) hM 0)
theorem set_ex {D:Sd}{v:Sv}{ns ns':Ns}{id:Nat}(hst:StOk D v ns)(hD:ExD w0 R D)(hf:polF 200000 bsE 0 (rdN bsE) (.set exD 2) ns=some (id,ns')):FSpec Tryz.prog w0 38 #[.pointer (some ⟨D.p,0,none⟩), .string nD, .int .i64 2] (SM D v ns++R) (PxK D id ns' R):=by
 have h:=setm_s (R:=R) hst hD.en nD 2 (by rw[fndD,hD.bs];exact⟨inD,by decide⟩);rw[fndD] at h;exact px_of hD hf h
theorem fil_ex {D:Sd}{v:Sv}{ns ns':Ns}{id:Nat}{p:Pd}(hst:StOk D v ns)(hD:ExD w0 R D)(hf:polF 200000 bsE 0 (rdN bsE) (.fil p) ns=some (id,ns'))(m:Pdm)(hI:IsP exF m p)(hM:PdM w0 R m)(hF:p.Fit bsE):FSpec Tryz.prog w0 39 #[.pointer (some ⟨D.p,0,none⟩), .agg (encPd m).toArray, .int .i64 0] (SM D v ns++R) (PxK D id ns' R):=px_of hD hf (filterm_s hst hD.en m p hI (by rw[hD.bs];exact hF) hM 0)
end
instance:Inhabited Chm:=⟨⟨(hd0,hd0), .blk 0 0 [],[]⟩⟩
section
variable {w0:World} {H:List (Nat × Obj)}
structure ExM (w0:World) (H:List (Nat × Obj)) (D:Sd) (v:Sv) (ns:Ns):Prop where
 st:StOk D v ns
 bs:D.bs=bsE
 S:(SM D v ns).Sublist H
 B:Arr w0 H D.qb 1 encB1 D.bs
 ex:ExOk ns
theorem ExM.mono {H':List (Nat × Obj)}{D:Sd}{v:Sv}{ns:Ns}(h:ExM w0 H D v ns)(hs:H.Sublist H'):ExM w0 H' D v ns:=⟨h.st,h.bs,h.S.trans hs,h.B.mono hs,h.ex⟩
variable {D:Sd} {v:Sv} {ns:Ns}
theorem ev5_ex (h:ExM w0 H D v ns):FSpec Tryz.prog w0 21 #[.pointer (some ⟨D.p,0,none⟩), .int .i64 774, .agg (hdC hd0).toArray] H (fun u H'=>∃ d:Sl,(SlOk d [hd0,hk1,hk2].length 10∧u= .tuple #[slV d [hd0,hk1,hk2].length, .int .i64 0])∧H'=slH d ([hd0,hk1,hk2].flatMap encHd) 30++H):=by
 have hl:=h.ex.len;have e:=eval_s Ce h.st (h.bs ▸ Gy) h.S h.B 774 qom;rw[h.bs,h.ex.ev5] at e;intro w hO;refine(e w hO).mono ?_;rintro _ w' ⟨u,H',he,hO',⟨d,⟨_,h2,rfl⟩,rfl⟩|⟨h1,_⟩⟩
 ·exact⟨_,_,he,hO',d,⟨h2,rfl⟩,rfl⟩
 ·simp at h1
theorem ev6_ex (h:ExM w0 H D v ns):FSpec Tryz.prog w0 21 #[.pointer (some ⟨D.p,0,none⟩), .int .i64 843, .agg (hdC hd0).toArray] H (fun u H'=>∃ d:Sl,(u= .tuple #[slV d 0, .int .i64 0])∧H'=slH d [] 30++H):=by
 have hl:=h.ex.len;have e:=eval_s Ce h.st (h.bs ▸ Gy) h.S h.B 843 qom;rw[h.bs,h.ex.ev6] at e;intro w hO;refine(e w hO).mono ?_;rintro _ w' ⟨u,H',he,hO',⟨d,⟨_,h2,rfl⟩,rfl⟩|⟨h1,_⟩⟩
 ·exact⟨_,_,he,hO',d,rfl,rfl⟩
 ·simp at h1
theorem df1_ex (h:ExM w0 H D v ns):FSpec Tryz.prog w0 15 #[.pointer (some ⟨D.p,0,none⟩), .int .i64 843, .int .i64 238] H (Still (.tuple #[.agg (hdC hd0).toArray, .bool true]) H):=by
 have hl:=h.ex.len;have e:=differ_s h.st (h.bs ▸ Gy) h.S h.B 843 238 qom qom;rw[h.bs,h.ex.df] at e;exact e
theorem df2_ex (h:ExM w0 H D v ns):FSpec Tryz.prog w0 15 #[.pointer (some ⟨D.p,0,none⟩), .int .i64 160, .int .i64 160] H (Still (.tuple #[.agg (hdC hd0).toArray, .bool false]) H):=by
 have hl:=h.ex.len;have e:=differ_s h.st (h.bs ▸ Gy) h.S h.B 160 160 qom qom;rw[show dfH ns D.bs 160 160=hd0 from if_pos rfl] at e;exact e
theorem gv_ex (h:ExM w0 H D v ns){a:Nat}{b:Bool}(ha:a<906)(hg:gvF ns (xh bsE hd0) a=b):FSpec Tryz.prog w0 34 #[.pointer (some ⟨D.p,0,none⟩), .int .i64 (a:Nat), .agg (hdC hd0).toArray] H (Still (.bool b) H):=by
 have hl:=h.ex.len;have e:=givesm_s Ce h.st (h.bs ▸ Gy) h.S h.B a qom;rw[h.bs,hg] at e;exact e
theorem rl_ex (h:ExM w0 H D v ns){s:Fs}(hs:Rs 70 ns s)(hr:rdC s 35 0 [906]=some [2]):FSpec Tryz.prog w0 20 #[.pointer (some ⟨D.p,0,none⟩), .int .i64 906] H (fun u H'=>∃ (d:Sl) (c:Chm) (X:List (Nat × Obj)),(c.ms.length=2∧SlOk d [c].length 21∧u= .tuple #[slV d [c].length, .int .i64 0])∧H'=slH d ([c].flatMap encCh) 81++(X++H)):=by
 have hl:=h.ex.len;have hbdd:Bdd ns D.bs (QC s bsE):=by rw[h.bs];exact qc_bdd hs
 have e:=rules_s h.st (h.bs ▸ Gy) h.S h.B hbdd 906 qom (fun _=>⟨[2],hr⟩);have hR:=ex_rules hs hr;rw[h.bs] at e;intro w hO;refine(e w hO).mono ?_;rintro _ w' ⟨u,H',he,hO',⟨⟨d,cs⟩,⟨_,h2,h3,_,rfl⟩,rfl⟩|⟨h1,_⟩⟩
 ·dsimp only at *
  rw[← h2,List.map_map] at hR
  match cs,hR with
  |[c],hR=>
   have hc:c.ms.length=2:=by simpa[Chm.pl] using hR
   exact⟨_,_,he,hO',d,c,chM [c],⟨hc,h3,rfl⟩,by rw[List.append_assoc]⟩
  |[],hR=>simp at hR
  |_::_::_,hR=>simp at hR
 ·have:=congrArg List.length hR;rw[List.length_map] at this;simp at this;omega
end
theorem eq34_nil (a:Nat)(w:World):(Op.equal 34 (.pointer (some ⟨a,0,none⟩)) (.pointer none)).run Tryz.prog w= .ok false w:=by kernel_rfl
theorem yl_ptrN {w0:World}{L:Fm}{H:List (Nat × Obj)}{ty yt:TypeId}{x:Operand}{a:Nat}(hx:Ev L x (.pointer (some ⟨a,0,none⟩))):Yl Tryz.prog w0 (.binOp .eql 34 x (.const (.pointer none)) yt) ty L H (.bool false):=Ba U fun b w=>by
 have hc:ev (lk L b) (.const (.pointer none))= .pointer none:=rfl;have hx':=hx b;simp[exO,execOp,hx',hc,binOp,eqGuard,eq34_nil,Sem.run_bind,Result.andThen]
theorem Ew {P:Program}{w0:World}{L:Fm}{H:List (Nat × Obj)}{ty xt yt:TypeId}{x y:Operand}{k:IntKind}{a c:Int}(hx:Ev L x (.int k a))(hy:Ev L y (.int k c))(h:a=c):Yl P w0 (.binOp .neq xt x y yt) ty L H (.bool false):=by
 have:=yl_neq (P:=P) (w0:=w0) (H:=H) (ty:=ty) (xt:=xt) (yt:=yt) hx hy
 rwa [decide_eq_false (fun e=>e h)] at this
theorem Hz {P:Program}{w0:World}{L:Fm}{H:List (Nat × Obj)}{ty xt yt:TypeId}{x y:Operand}{k:IntKind}{a c:Int}(hx:Ev L x (.int k a))(hy:Ev L y (.int k c))(h:a=c):Yl P w0 (.binOp .eql xt x y yt) ty L H (.bool true):=by
 have:=yl_eql (P:=P) (w0:=w0) (H:=H) (ty:=ty) (xt:=xt) (yt:=yt) hx hy
 rwa [decide_eq_true h] at this
theorem yl_eqF {P:Program}{w0:World}{L:Fm}{H:List (Nat × Obj)}{ty xt yt:TypeId}{x y:Operand}{k:IntKind}{a c:Int}(hx:Ev L x (.int k a))(hy:Ev L y (.int k c))(h: ¬ a=c):Yl P w0 (.binOp .eql xt x y yt) ty L H (.bool false):=by
 have:=yl_eql (P:=P) (w0:=w0) (H:=H) (ty:=ty) (xt:=xt) (yt:=yt) hx hy
 rwa [decide_eq_false h] at this
theorem yl_geT {P:Program}{w0:World}{L:Fm}{H:List (Nat × Obj)}{ty xt yt:TypeId}{x y:Operand}{k:IntKind}{a c:Int}(hx:Ev L x (.int k a))(hy:Ev L y (.int k c))(h:c≤a):Yl P w0 (.binOp .geq xt x y yt) ty L H (.bool true):=by
 have:=yl_geq (P:=P) (w0:=w0) (H:=H) (ty:=ty) (xt:=xt) (yt:=yt) hx hy
 rwa [decide_eq_true h] at this
theorem eqH0 (w:World):(Op.equal 30 (.agg (hdC hd0).toArray) (.agg (hdC hd0).toArray)).run Tryz.prog w= .ok (decide True) w:=by kernel_rfl
theorem zbd25_0_4 (a0:Int)(a1:Option Addr)(a1n a1c:Nat)(w:World):(Instr.build 25 #[(0, .int .i64 a0),(4, .slice a1 a1n a1c)]).run Tryz.prog w= .ok (.agg #[.int .i64 a0, .string ⟨#[]⟩, .int .i64 0, .int .i64 0, .slice a1 a1n a1c]) w:=by kernel_rfl
theorem sanity_s {w0:World}{H:List (Nat × Obj)}  :
  FSpec Tryz.prog w0 11 #[] H (Still (.bool true) H):=by
 refine Aq Tryz.func11 U ntmps11 U ?_;obtain⟨n1,n2,n3,n4,n5,n6,n7,s7,f1,f2,f3,f4,f5,f6,f7,hs7,hrd⟩:=ex_all;have hex:=ex_fin f1 f2 f3 f4 f5 f6 f7;refine rD tb 7 U (e_ (Ao .nil call37 (lex_s)) ?_ U);rintro _ _ ⟨n27,rfl,rfl⟩;refine e_ (Ao (.cons (T U) (.cons Ak .nil)) call13 (new_ex)) ?_ U;rintro _ _ ⟨D,v0,R,⟨rfl,hst0,hD,hHR⟩,rfl⟩;refine rO tb 7 U (y_ (yl_ptrN (T U)) (rO tb 8 U (y_ (An (.cons Ak (.cons Ak .nil)) call29 (fun H' hs=>Hw nD 1)) (y_ (An (.cons Ak (.cons Ak .nil)) call29 (fun H' hs=>Hw nD 2)) (e_ (Bf (.cons (T U) (.cons (T U) .nil)) (De _ _ _ _ _ _ _ _ _ _ _ _ _ _ _ _ _ _ _ _ _ _ _ _ _ _)) ?_ U) U) U)) U);rintro _ _ ⟨n35,rfl,rfl⟩;refine y_ (An (.cons Ak (.cons (T U) .nil)) call24 (fun H' hs=>Hl 4 (some ⟨n35,0,none⟩) [mSet nD 1,mSet nD 2] 2)) ?_ U;refine e_ (Ao (.cons (T U) (.cons (T U) (.cons Ak .nil))) call14 (B7 (M:=SM D v0 (nsE 70)) (Jr (R:=((n35,Cl (encPo (mSet nD 1)++encPo (mSet nD 2)) 28)::R)) hst0 (hD.mono (by exact sbt)) f1 (mOp2 4 n35 (mSet nD 1) (mSet nD 2)) (.seq U U (Hy (n:=1) fndD) (Hy (n:=2) fndD)) (Iw (by repeat (first|exact Av|refine Az ?_)) (E4 Fk) (E4 Fk)) ⟨⟨inD,(pin 1 qde).1⟩,⟨inD,(pin 2 qde).1⟩⟩) (by repeat (first|exact Bw|exact LocL.h|apply LocL.t|apply LocL.a)))) ?_ U;rintro _ _ ⟨v1,⟨rfl,hst1⟩,rfl⟩;refine rO tb 10 U (e_ (Ao (.cons (T U) (.cons Ak (.cons Ak .nil))) call38 (B7 (M:=SM D v1 n1) (set_ex (R:=((n35,Cl (encPo (mSet nD 1)++encPo (mSet nD 2)) 28)::R)) hst1 (hD.mono (by exact sbt)) f2) (by repeat (first|exact Bw|exact LocL.h|apply LocL.t|apply LocL.a)))) ?_ U);rintro _ _ ⟨v2,⟨rfl,hst2⟩,rfl⟩;refine rO tb 10 U (y_ (An (.cons Ak (.cons Ak .nil)) call30 (fun H' hs=>J4 nD 1)) (y_ (An (qe1 U) call28 (fun H' hs=>It (mEq nD 1))) (y_ (An (.cons Ak (.cons Ak .nil)) call30 (fun H' hs=>J4 nD 1)) (e_ (Bf (.cons (T U) .nil) (zbs23_1_0 _ _ _ _ _ _ _)) ?_ U) U) U) U);rintro _ _ ⟨n50,rfl,rfl⟩;refine y_ (A4 (.cons Ak (.cons (T U) .nil)) (zbd25_0_4 _ _ _ _)) (y_ (An (qe1 U) call28 (fun H' hs=>It (mNo n50 (mEq nD 1)))) (e_ (Bf (.cons (T U) (.cons (T U) .nil)) (De _ _ _ _ _ _ _ _ _ _ _ _ _ _ _ _ _ _ _ _ _ _ _ _ _ _)) ?_ U) U) U;rintro _ _ ⟨n53,rfl,rfl⟩;refine y_ (An (.cons Ak (.cons (T U) .nil)) call24 (fun H' hs=>Hl 3 (some ⟨n53,0,none⟩) [mFil (mEq nD 1),mFil (mNo n50 (mEq nD 1))] 2)) ?_ U;refine e_ (Ao (.cons (T U) (.cons (T U) (.cons Ak .nil))) call14 (B7 (M:=SM D v2 n2) (Jr (R:=((n53,Cl (encPo (mFil (mEq nD 1))++encPo (mFil (mNo n50 (mEq nD 1)))) 28)::(n50,Cl (encPd (mEq nD 1)) 25)::(n35,Cl (encPo (mSet nD 1)++encPo (mSet nD 2)) 28)::R)) hst2 (hD.mono (by exact sbt)) f3 (mOp2 3 n53 (mFil (mEq nD 1)) (mFil (mNo n50 (mEq nD 1)))) (.uni U U (.fil U (J6 (n:=1) fndD)) (.fil U (.no U U (J6 (n:=1) fndD)))) (Iw (by repeat (first|exact Av|refine Az ?_)) (E4 Jv) (E4 (pd_no (by repeat (first|exact Av|refine Az ?_)) Jv))) ⟨⟨inD,(pin 1 qde).1⟩,⟨inD,(pin 1 qde).1⟩⟩) (by repeat (first|exact Bw|exact LocL.h|apply LocL.t|apply LocL.a)))) ?_ U;rintro _ _ ⟨v3,⟨rfl,hst3⟩,rfl⟩;refine kO tb 7 [1,2,3,4,5,6,7] rfl U (rG tb 3 U (y_ (A4 (.cons Ak .nil) (zbd25_0 _)) (e_ (Ao (.cons (T U) (.cons (T U) (.cons Ak .nil))) call39 (B7 (M:=SM D v3 n3) (fil_ex (R:=((n53,Cl (encPo (mFil (mEq nD 1))++encPo (mFil (mNo n50 (mEq nD 1)))) 28)::(n50,Cl (encPd (mEq nD 1)) 25)::(n35,Cl (encPo (mSet nD 1)++encPo (mSet nD 2)) 28)::R)) hst3 (hD.mono (by exact sbt)) f4 mTru (.tru U) Jv trivial) (by repeat (first|exact Bw|exact LocL.h|apply LocL.t|apply LocL.a)))) ?_ U) U));rintro _ _ ⟨v4,⟨rfl,hst4⟩,rfl⟩;refine rO tb 10 U (y_ (An (.cons Ak (.cons Ak .nil)) call29 (fun H' hs=>Hw nK 1)) (y_ (An (.cons Ak (.cons Ak .nil)) call29 (fun H' hs=>Hw nK 2)) (e_ (Bf (.cons (T U) (.cons (T U) .nil)) (De _ _ _ _ _ _ _ _ _ _ _ _ _ _ _ _ _ _ _ _ _ _ _ _ _ _)) ?_ U) U) U);rintro _ _ ⟨n68,rfl,rfl⟩;refine y_ (An (.cons Ak (.cons (T U) .nil)) call24 (fun H' hs=>Hl 3 (some ⟨n68,0,none⟩) [mSet nK 1,mSet nK 2] 2)) (e_ (Bf (.cons (T U) .nil) (Gi _ _ _ _ _ _ _ _ _ _ _ _ _)) ?_ U) U;rintro _ _ ⟨n70,rfl,rfl⟩;refine y_ (An (.cons Ak (.cons (T U) .nil)) call24 (fun H' hs=>Hl 5 (some ⟨n70,0,none⟩) [(mOp2 3 n68 (mSet nK 1) (mSet nK 2))] 1)) ?_ U;refine e_ (Ao (.cons (T U) (.cons (T U) (.cons Ak .nil))) call14 (B7 (M:=SM D v4 n4) (Jr (R:=((n70,Cl (encPo (mOp2 3 n68 (mSet nK 1) (mSet nK 2))) 28)::(n68,Cl (encPo (mSet nK 1)++encPo (mSet nK 2)) 28)::(n53,Cl (encPo (mFil (mEq nD 1))++encPo (mFil (mNo n50 (mEq nD 1)))) 28)::(n50,Cl (encPd (mEq nD 1)) 25)::(n35,Cl (encPo (mSet nD 1)++encPo (mSet nD 2)) 28)::R)) hst4 (hD.mono (by exact sbt)) f5 (mOp1 5 n70 (mOp2 3 n68 (mSet nK 1) (mSet nK 2))) (.star U U (.uni U U (Hy (n:=1) fndK) (Hy (n:=2) fndK))) (po_op1 (by repeat (first|exact Av|refine Az ?_)) (Iw (by repeat (first|exact Av|refine Az ?_)) (E4 Fk) (E4 Fk))) ⟨⟨inK,(pin 1 qde).2⟩,⟨inK,(pin 2 qde).2⟩⟩) (by repeat (first|exact Bw|exact LocL.h|apply LocL.t|apply LocL.a)))) ?_ U;rintro _ _ ⟨v5,⟨rfl,hst5⟩,rfl⟩;refine rO tb 10 U (y_ (An (.cons Ak (.cons Ak .nil)) call30 (fun H' hs=>J4 nD 3)) (e_ (Ao (.cons (T U) (.cons (T U) (.cons Ak .nil))) call39 (B7 (M:=SM D v5 n5) (fil_ex (R:=((n70,Cl (encPo (mOp2 3 n68 (mSet nK 1) (mSet nK 2))) 28)::(n68,Cl (encPo (mSet nK 1)++encPo (mSet nK 2)) 28)::(n53,Cl (encPo (mFil (mEq nD 1))++encPo (mFil (mNo n50 (mEq nD 1)))) 28)::(n50,Cl (encPd (mEq nD 1)) 25)::(n35,Cl (encPo (mSet nD 1)++encPo (mSet nD 2)) 28)::R)) hst5 (hD.mono (by exact sbt)) f6 (mEq nD 3) (J6 (n:=3) fndD) Jv ⟨inD,(pin 3 qde).1⟩) (by repeat (first|exact Bw|exact LocL.h|apply LocL.t|apply LocL.a)))) ?_ U) U);rintro _ _ ⟨v6,⟨rfl,hst6⟩,rfl⟩;refine kO tb 7 [1,2,3,4,5,6,7,8,9,10,11,12,13] rfl U ?_;refine I6 (X:=List (Nat × Obj)) (V:=fun M=>[(14, .int .i64 906),(15, .int .i64 0)]) (C:=[(1,_),(2,_),(3,_),(4,_),(5,_),(6,_),(7,_),(8,_),(9,_),(10,_),(11,_),(12,_),(13,_)]) (G:=fun M=>M) (φ:=fun M=>∃ v7,ExM w0 M D v7 n7∧H.Sublist M) ⟨Aa U,Aa U,Aa U,Aa U,Aa U,Aa U,Aa U,Aa U,Aa U,Aa U,Aa U,Aa U,Aa U,trivial⟩ ?_ ?_
 ·refine rD tb 2 U (y_ (An (.cons Ak (.cons Ak .nil)) call30 (fun H' hs=>J4 nD 3)) (y_ (An (qe1 U) call28 (fun H' hs=>It (mEq nD 3))) (y_ (An (.cons Ak (.cons Ak .nil)) call29 (fun H' hs=>Hw nK 1)) (y_ (An (.cons Ak (.cons Ak .nil)) call29 (fun H' hs=>Hw nK 2)) (e_ (Bf (.cons (T U) (.cons (T U) .nil)) (De _ _ _ _ _ _ _ _ _ _ _ _ _ _ _ _ _ _ _ _ _ _ _ _ _ _)) ?_ U) U) U) U) U);rintro _ _ ⟨n87,rfl,rfl⟩;refine y_ (An (.cons Ak (.cons (T U) .nil)) call24 (fun H' hs=>Hl 3 (some ⟨n87,0,none⟩) [mSet nK 1,mSet nK 2] 2)) (e_ (Bf (.cons (T U) (.cons (T U) .nil)) (De _ _ _ _ _ _ _ _ _ _ _ _ _ _ _ _ _ _ _ _ _ _ _ _ _ _)) ?_ U) U;rintro _ _ ⟨n89,rfl,rfl⟩;refine y_ (An (.cons Ak (.cons (T U) .nil)) call24 (fun H' hs=>Hl 4 (some ⟨n89,0,none⟩) [mFil (mEq nD 3),(mOp2 3 n87 (mSet nK 1) (mSet nK 2))] 2)) ?_ U;refine e_ (Ao (.cons (T U) (.cons (T U) (.cons Ak .nil))) call14 (B7 (M:=SM D v6 n6) (Jr (R:=((n89,Cl (encPo (mFil (mEq nD 3))++encPo (mOp2 3 n87 (mSet nK 1) (mSet nK 2))) 28)::(n87,Cl (encPo (mSet nK 1)++encPo (mSet nK 2)) 28)::(n70,Cl (encPo (mOp2 3 n68 (mSet nK 1) (mSet nK 2))) 28)::(n68,Cl (encPo (mSet nK 1)++encPo (mSet nK 2)) 28)::(n53,Cl (encPo (mFil (mEq nD 1))++encPo (mFil (mNo n50 (mEq nD 1)))) 28)::(n50,Cl (encPd (mEq nD 1)) 25)::(n35,Cl (encPo (mSet nD 1)++encPo (mSet nD 2)) 28)::R)) hst6 (hD.mono (by exact sbt)) f7 (mOp2 4 n89 (mFil (mEq nD 3)) (mOp2 3 n87 (mSet nK 1) (mSet nK 2))) (.seq U U (.fil U (J6 (n:=3) fndD)) (.uni U U (Hy (n:=1) fndK) (Hy (n:=2) fndK))) (Iw (by repeat (first|exact Av|refine Az ?_)) (E4 Jv) (Iw (by repeat (first|exact Av|refine Az ?_)) (E4 Fk) (E4 Fk))) ⟨⟨inD,(pin 3 qde).1⟩,⟨⟨inK,(pin 1 qde).2⟩,⟨inK,(pin 2 qde).2⟩⟩⟩) (by repeat (first|exact Bw|exact LocL.h|apply LocL.t|apply LocL.a)))) ?_ U;rintro _ _ ⟨v7,⟨rfl,hst7⟩,rfl⟩;refine rO tb 6 U ?_;refine A8 (_) ?_ ⟨atd,atd,trivial⟩ ⟨Aa U,Aa U,Aa U,Aa U,Aa U,Aa U,Aa U,Aa U,Aa U,Aa U,Aa U,Aa U,Aa U,trivial⟩ sbt;exact⟨v7,⟨hst7,hD.bs,by repeat (first|exact List.sublist_append_left _ _|refine List.Sublist.cons _ ?_),hD.en.bits.mono (by exact sbt),hex⟩,hHR.trans (by exact sbt)⟩
 rintro M ⟨v7,hX,hHM⟩;refine rC tb 4 U (y_ (Ew (T U) Ak U) (rO tb 2 U (Ax (Ew (T U) Ak U) U (A1 U U (Aa U)) (rO tb 3 U (Ax (Ew (T U) Ak U) U (A1 U U (Aa U)) (rO tb 3 U (Ax (Ew (T U) Ak U) U (A1 U U (Aa U)) (rO tb 3 U (Ax (Ew (T U) Ak U) U (A1 U U (Aa U)) (rO tb 3 U (Ax (Ew (T U) Ak U) U (A1 U U (Aa U)) (rO tb 3 U (Ax (Ew (T U) Ak U) U (A1 U U (Aa U)) (rO tb 4 U (Ax (Ew (T U) (T U) U) U (A1 U U (Aa U)) (rO tb 4 U (Ax (Ew (T U) (T U) U) U (A1 U U (Aa U)) (rO tb 4 U (Ax (yl_eqF (T U) (T U) qde) U (A1 U U (Aa U)) ?_)))))))))))))))))) U);refine kO tb 3 [1,2,4,8,10,12,14,134] rfl U (rG tb 7 U (y_ (A4 .nil (Dz)) (e_ (Ao (qe3 U U U) call21 (ev5_ex hX)) ?_ U) U));rintro _ _ ⟨d5,⟨hd5,rfl⟩,rfl⟩;have hA5:Arr w0 (slH d5 ([hd0,hk1,hk2].flatMap encHd) 30) (slQ d5) 10 encHd [hd0,hk1,hk2]:=by have:=Cz (w0:=w0) (e:=30) (X:=[]) (enc:=encHd) encHd_len hd5;rwa [List.append_nil] at this
 refine rO tb 11 U (y_ (A4 .nil (Dz)) (e_ (Ao (qe3 U U U) call21 (ev6_ex (hX.mono (by exact sbt)))) ?_ U) U);rintro _ _ ⟨d6,rfl,rfl⟩;refine rO tb 12 U (y_ (An (qe3 U U U) call15 (fun H' hs=>df1_ex ((hX.mono (by exact sbt)).mono hs))) ?_ U);refine rO tb 3 U (e_ (Al zeroValue30 cs_) ?_ U);rintro _ _ ⟨n20,rfl,rfl⟩
 first|refine A2 (Ki U U sizeOf30) U Ad ?_
 rintro _ _ ⟨rfl,rfl⟩;refine kO tb 3 [1,2,4,8,12,14,16,17,18,19,20,21] rfl U (rG tb 5 U (y_ (An (qe3 U U U) call15 (fun H' hs=>df2_ex ((hX.mono (by exact sbt)).mono hs))) ?_ U));refine rO tb 3 U (e_ (Al zeroValue30 cs_) ?_ U);rintro _ _ ⟨n22,rfl,rfl⟩
 first|refine A2 (Ki U U sizeOf30) U Ad ?_
 rintro _ _ ⟨rfl,rfl⟩;refine rO tb 7 U (e_ (Ao (qe2 U U) call20 (rl_ex (hX.mono (by exact sbt)) hs7 hrd)) ?_ U);rintro _ _ ⟨d9,ch9,X9,⟨hms,hd9,rfl⟩,rfl⟩;have hA9:Arr w0 (slH d9 ([ch9].flatMap encCh) 81) (slQ d9) 21 encCh [ch9]:=by have:=Cz (w0:=w0) (e:=81) (X:=[]) (enc:=encCh) encCh_len hd9;rwa [List.append_nil] at this
 refine kO tb 7 [1,8,12,16,17,18,19,20,21,23,24,25] rfl U (rG tb 7 U ?_);refine Bi (X:=Nat) (V:=fun i=>[(26, .int .i64 (i:Nat))]) (C:=[(1,_),(8,_),(12,_),(16,_),(17,_),(18,_),(19,_),(20,_),(21,_),(23,_),(24,_),(25,_)]) (G:=fun i=>slH d9 ([ch9].flatMap encCh) 81++(X9++((n22,Cl (hdC hd0) 30)::(n20,Cl (hdC hd0) 30)::(slH d6 [] 30++(slH d5 ([hd0,hk1,hk2].flatMap encHd) 30++M))))) (φ:=fun i=>i≤1) (μ:=fun i=>1 - i) (x0:=0) ?_ ⟨Aa U,Aa U,Aa U,Aa U,Aa U,Aa U,Aa U,Aa U,Aa U,Aa U,Aa U,Aa U,trivial⟩ ⟨atd,trivial⟩ sb0 ?_
 ·exact Nat.zero_le _
 rintro i hi;refine rD tb 9 U ?_
 first|refine Ac (Aa U) (fun c172=> ?_) (fun c172=> ?_)|refine Af (Aa U) (fun c172=> ?_) (fun c172=> ?_)
 ·obtain rfl:i=0:=by have h9:((i:Nat):Int)<1:=c172;omega
  refine rC tb 8 U (y_ (Kh U U runUnderlying48 sizeOf81 qom (by first|exact rfl|exact hA9.b (i:=0) Nat.zero_lt_one|exact hA5.b (i:=1) (show 1<3 from qde))) ?_ U);refine rO tb 1 U (y_ (Kf U isAgg79 (by first|exact c_o|exact(hA9.mono (List.sublist_append_left _ _)).cs (i:=0) Nat.zero_lt_one 20 _ U)) ?_ U);refine rO tb 1 U (y_ (Ew (T U) Ak (by show ((ch9.ms.length:Nat):Int)=2;rw[hms];rfl)) ?_ U);refine rO tb 8 U (y_ (Bh (T U) Ak qom) ?_ U);refine rO tb 2 U ?_;refine A5 (0+1) ?_ ?_ ⟨atd,trivial⟩ ⟨Aa U,Aa U,Aa U,Aa U,Aa U,Aa U,Aa U,Aa U,Aa U,Aa U,Aa U,Aa U,trivial⟩ ?_
  ·exact Nat.le_refl _
  ·exact Nat.lt_succ_self _
  ·exact sbt
 ·skip
  refine rC tb 2 U (Au (rX tb 5 U (y_ (Hz (T U) Ak U) (rO tb 3 U (Ax (Hz (T U) Ak U) U (A1 U U (Aa U)) (rO tb 3 U (Ax (C5 (T U) Ak runUnderlying42 sizeOf30 qde (by first|exact rfl|exact hA9.b (i:=0) Nat.zero_lt_one|exact hA5.b (i:=1) (show 1<3 from qde))) U (A1 U U (Aa U)) ?_)))) U)));refine Ax (Bm (T U) Ak runUnderlying30 sizeOf3 qom) U (A1 U U (Aa U)) ?_;refine Ax (Kf U isAgg3 (by first|exact c_o|exact(hA5.mono (by repeat (first|exact List.sublist_append_left _ _|refine List.Sublist.cons _ ?_|refine List.Sublist.trans ?_ (List.sublist_append_right _ _)))).cs (i:=1) (show 1<3 from qde) 2 _ U)) U (A1 U U (Aa U)) ?_;refine Ax (Hz (T U) Ak U) U (A1 U U (Aa U)) (rO tb 3 U (Ax (Hz (T U) Ak U) U (A1 U U (Aa U)) (rO tb 4 U (Ax (Hz (T U) Ak U) U (A1 U U (Aa U)) (rO tb 5 U (Ax (Kg U isAgg30 sizeOf30 U (by first|exact Ay)) U (A1 U U (Aa U)) ?_))))));refine Ax (A4 .nil (Dz)) U (A1 U U (Aa U)) (Ax (yl_eqA (T U) (T U) qkr eqH0) U (A1 U U (Aa U)) ?_);refine rO tb 3 U ?_
  first|refine Ax (Bs (T U)) U (A1 U U (Aa U)) ?_|refine Ax (B9 (T U)) U (A1 U U (Aa U)) ?_
  refine rO tb 3 U (Ax (Hz (T U) Ak U) U (A1 U U (Aa U)) (rO tb 4 U (Ax (yl_geT (T U) Ak (show (1:Int)≤((1:Nat):Int) from qde)) U (A1 U U (Aa U)) ?_)));refine rO tb 4 U (Ax (A4 .nil (Dz)) U (A1 U U (Aa U)) (Ax (An (qe3 U U U) call34 (fun H' hs=>gv_ex (a:=238) ((hX.mono (by exact sbt)).mono hs) qde hX.ex.g4)) U (A1 U U (Aa U)) ?_));refine rO tb 4 U (Ax (A4 .nil (Dz)) U (A1 U U (Aa U)) (Ax (An (qe3 U U U) call34 (fun H' hs=>gv_ex (a:=843) ((hX.mono (by exact sbt)).mono hs) qde hX.ex.g6)) U (A1 U U (Aa U)) ?_))
  first|refine Ax (Bs (T U)) U (A1 U U (Aa U)) ?_|refine Ax (B9 (T U)) U (A1 U U (Aa U)) ?_
  refine kO tb 4 [0] rfl U (rG tb 1 U (Ah U (Ke U) ?_));exact⟨_,⟨rfl,rfl⟩,hHM.trans (by exact sbt)⟩
end Go.Proofs.YtkojjapnfdlddaaGreat
namespace Go.Proofs.YtkojjapnfdlddaaGreat
open _root_.Go.Proofs.Tryz
open Go.ChangeShapes Go.WideShapes Go.ChangeAt Go.RowKit Go.Joins Go.Deep
set_option linter.unusedVariables false
set_option linter.unusedSimpArgs false
set_option linter.unusedSectionVars false
set_option maxRecDepth 100000
theorem below_cell {W w:World}{p:Addr}{v:Value}(hb:Below W.heap.size W w)(h:W.cell? p=some v):w.cell? p=some v:=by
 have hlt:=World.block_lt_of_cell? _ _ h;have:=hb.block p.block hlt;unfold World.cell? at h ⊢;rw[this];exact h
theorem cell_arg {W:World}{p:Addr}{v:Value}(h:W.cell? p=some v):Cell W [] p v:=fun w hO=>below_cell hO.below h
theorem D2 {H:Type}(d:DataW H):1≤Rows.uptoBulk d:=by
 cases d with
 |lit l=>cases l<;>simp[Rows.uptoBulk]
 |nil=>simp[Rows.uptoBulk]
 |ptr d=>simp[Rows.uptoBulk]
 |slice elems spare=>simp[Rows.uptoBulk]
 |agg parts=>simp[Rows.uptoBulk]
 |iface t d=>simp[Rows.uptoBulk]
 |map entries=>simp[Rows.uptoBulk]
 |held h=>simp[Rows.uptoBulk]
theorem blk_sum {H:Type}{f:Nat→Nat}{D:Nat→DataW H}:∀ (l:List Nat),(∀ i∈l,f i≤Rows.uptoBulk (D i))→(l.map f).sum≤Rows.uptoBulkAll (l.map D)
 |[],_=>Nat.le_refl _
 |x::l,h=>by
  have h1:=h x (by simp);have h2:=blk_sum l fun i hi=>h i (by simp[hi])
  simp only[List.map_cons,List.sum_cons,Rows.uptoBulkAll];omega
theorem blk_mem {H:Type}{D:Nat→DataW H}:∀ {l:List Nat} {i:Nat},i∈l→Rows.uptoBulk (D i)≤Rows.uptoBulkAll (l.map D)
 |x::l,i,h=>by
  simp only[List.map_cons,Rows.uptoBulkAll];rcases List.mem_cons.1 h with rfl|h
  ·exact Nat.le_add_right _ _
  ·have:=blk_mem (D:=D) h;omega
section
variable {H:Type} {enc:TypeId × Value→H} {P:Program} {W:World} {b0:Nat} {sp1:Nat→Bool} {held:Bool}
theorem open_arr {α:Type}{t e sz fuel:Nat}{cs:List Value}{x:DataW H × List MemPlace}{el:α→List Value}{φ:α→Prop}{szf:α→Nat}(ht:P.underlying t=some (.slice e))(hc:P.cellsOf e=sz)(hsz:0<sz)
  (hel:∀ n cs y,Rows.uptoBulk y.1<Rows.uptoBulk x.1→DataW.trod enc P W b0 sp1 held n e cs=some y→∃ u:α,cs=el u∧φ u∧szf u≤Rows.uptoBulk y.1) (h:DataW.trod enc P W b0 sp1 held fuel t cs=some x):
  ∃ (q:Option Addr) (l:List α) (cap:Nat),cs=[.slice q l.length cap]∧Arr W [] q sz el l∧l.length≤cap∧l.length≤9223372036854775807∧(∀ u∈l,φ u)∧(l.map szf).sum+1≤Rows.uptoBulk x.1:=by
 rcases open_slice ht h with ⟨rfl,rfl⟩|⟨a,len,cap,m,n,D,Pl,rfl,hb,hl,hm,hmm,rfl,hx⟩
 ·exact⟨none,[],0,rfl,fun i u hi=>by simp at hi,by simp,by simp,by simp,by simp[Rows.uptoBulk]⟩
 have hlm:len≤m:=by rw[hmm];split<;>omega
 have hlen:len≤9223372036854775807:=by unfold maxLen at hm;omega
 cases len with
 |zero=>exact⟨some a,[],cap,rfl,fun i u hi=>by simp at hi,by simp,by simp,by simp,by simp[Rows.uptoBulk]⟩
 |succ k=>
  have hbk:Rows.uptoBulkAll ((List.range (k+1)).map D)+1≤Rows.uptoBulk (DataW.slice ((List.range (k+1)).map D) ((List.range (m - (k+1))).map fun j=>D (k+1+j))):=by
   simp only[Rows.uptoBulk];omega
  have each:∀ i,i<k+1→∃ u:α,W.cells? b0 (a.add (i*sz)) sz=some (el u)∧φ u∧szf u≤Rows.uptoBulk (D i):=fun i hi=>by
   obtain⟨cs',h1,h2⟩:=hx i qom;rw[hc] at h1;have h3:=blk_mem (D:=D) (List.mem_range.2 hi);obtain⟨u,rfl,hu⟩:=hel _ _ _ (by simp only[];omega) h2;exact⟨u,h1,hu⟩
  obtain⟨u0,h00,hu0⟩:=each 0 qom
  letI:Inhabited α:=⟨u0⟩
  obtain⟨f,hf⟩:=choose_lt each;refine⟨some a,(List.range (k+1)).map f,cap,by simp,fun i u hi=> ?_,by simpa using hl,by simpa using hlen,fun u hu=> ?_,?_⟩
  ·have hik:i<k+1:=by have:=(List.getElem?_eq_some_iff.1 hi).1;simpa using this
   have hfu:f i=u:=by simpa[hik] using hi
   obtain⟨sb,so,spot⟩:=a;obtain⟨_,hl0,hc0⟩:=World.cells?_some h00;have hspot:spot=none:=by
    have h6:=(hc0 0 hsz).trans (List.getElem?_eq_getElem qom)
    simpa[Addr.add] using World.cell?_spot h6
   subst hspot;refine⟨rfl,fun j v hj=>cell_arg ?_⟩;obtain⟨_,hl1,hc1⟩:=World.cells?_some (hf i hik).1;rw[hfu] at hl1 hc1;have hjl:=(List.getElem?_eq_some_iff.1 hj).1;have h5:=hc1 j qom;rw[add_add,add_plain] at h5;have h6:=h5.trans hj;rw[← Nat.add_assoc] at h6;exact h6
  ·obtain⟨i,hi,rfl⟩:=List.mem_map.1 hu;exact(hf i (List.mem_range.1 hi)).2.1
  ·have:=blk_sum (f:=fun i=>szf (f i)) (D:=D) (List.range (k+1)) fun i hi=>(hf i (List.mem_range.1 hi)).2.2
   rw[List.map_map];have e:(szf ∘ f)=fun i=>szf (f i):=rfl
   rw[e];simp only[] at hbk ⊢;omega
end
theorem cells3:Tryz.prog.cellsOf 3=1:=by kernel_rfl
theorem cells9:Tryz.prog.cellsOf 9=1:=by kernel_rfl
theorem cells67:Tryz.prog.cellsOf 67=3:=by kernel_rfl
theorem cells25:Tryz.prog.cellsOf 25=5:=by kernel_rfl
theorem cells23:Tryz.prog.cellsOf 23=1:=by kernel_rfl
theorem cells28:Tryz.prog.cellsOf 28=9:=by kernel_rfl
theorem cells26:Tryz.prog.cellsOf 26=1:=by kernel_rfl
theorem own_knob:ownKnob Tryz.prog.godebug=none:=by kernel_rfl
theorem i64_bd {n:Int}(h:(Lit.int .i64 n).wf=true): -9223372036854775808≤n∧n≤9223372036854775807:=by
 have:=bounds_i64 h;exact this
theorem szPL_sum:∀ l:List Pdm,szPL l=(l.map Pdm.sz).sum
 |[]=>by simp[szPL]
 |x::l=>by simp only[szPL,List.map_cons,List.sum_cons,szPL_sum l]
theorem szOL_sum:∀ l:List Pom,szOL l=(l.map Pom.sz).sum
 |[]=>by simp[szOL]
 |x::l=>by simp only[szOL,List.map_cons,List.sum_cons,szOL_sum l]
theorem prtPL_in {l:List Pdm}{a:Pdm}(h:a∈prtPL l):∃ x∈l,a∈prtP x:=by
 induction l with
 |nil=>simp[prtPL] at h
 |cons x l ih=>
  rw[prtPL] at h;rcases List.mem_append.1 h with h|h
  ·exact⟨x,by simp,h⟩
  ·obtain⟨y,h1,h2⟩:=ih h;exact⟨y,by simp[h1],h2⟩
theorem prtOL_in {l:List Pom}{a:Pom}(h:a∈prtOL l):∃ x∈l,a∈prtO x:=by
 induction l with
 |nil=>simp[prtOL] at h
 |cons x l ih=>
  rw[prtOL] at h;rcases List.mem_append.1 h with h|h
  ·exact⟨x,by simp,h⟩
  ·obtain⟨y,h1,h2⟩:=ih h;exact⟨y,by simp[h1],h2⟩
section
variable {H:Type} {enc:TypeId × Value→H} {W:World} {b0 n:Nat} {sp1:Nat→Bool} {held:Bool} {y:DataW H × List MemPlace} {cs:List Value}
abbrev encSv (s:ByteArray):List Value:=[.string s]
theorem Gz {c:Value}(h:DataW.trod enc Tryz.prog W b0 sp1 held n 3 [c]=some y):∃ a:Int,c= .int .i64 a∧(-9223372036854775808≤a∧a≤9223372036854775807):=by
 obtain⟨a,e0,_,wa⟩:=DataW.trod_int underlying3 h;simp at e0;exact⟨a,e0,i64_bd wa⟩
theorem rd_str (h:DataW.trod enc Tryz.prog W b0 sp1 held n 9 cs=some y):∃ u:ByteArray,cs=encSv u∧u.size≤9223372036854775807:=by
 obtain⟨s,e0,_,ws⟩:=DataW.trod_string underlying9 h;exact⟨s,e0,by unfold maxLen at ws;omega⟩
theorem rd_fi (h:DataW.trod enc Tryz.prog W b0 sp1 held n 67 cs=some y):∃ u:Fi,cs=encFi u∧u.nm.size≤9223372036854775807:=by
 obtain⟨xs,m,rfl,rfl,hlen,hxl,hall⟩:=DataW.trod_struct underlying67 h;rw[cells67] at hlen
 match xs,hxl,cs,hlen with
 |[x0,x1,x2],_,[c0,c1,c2],_=>
  have f0:DataW.trod enc Tryz.prog W b0 sp1 held m 9 [c0]=some x0:=by have:=hall 0 _ rfl;simpa[cells9] using this
  have f1:DataW.trod enc Tryz.prog W b0 sp1 held m 3 [c1]=some x1:=by have:=hall 1 _ rfl;simpa[cells9,cells3] using this
  have f2:DataW.trod enc Tryz.prog W b0 sp1 held m 3 [c2]=some x2:=by have:=hall 2 _ rfl;simpa[cells9,cells3] using this
  obtain⟨s,e1,hs⟩:=rd_str f0;obtain⟨a,rfl,_⟩:=Gz f1;obtain⟨b,rfl,_⟩:=Gz f2;simp at e1;exact⟨⟨s,a,b⟩,by rw[e1],hs⟩
theorem rd_pd:∀ (N:Nat) {n:Nat} {y:DataW H × List MemPlace} {cs:List Value},Rows.uptoBulk y.1≤N→DataW.trod enc Tryz.prog W b0 sp1 held n 25 cs=some y→∃ u:Pdm,cs=encPd u∧(PdM W [] u∧NmP u)∧u.sz≤Rows.uptoBulk y.1
 |0,n,y,cs,hN,_=>by have:=D2 y.1;omega
 |N+1,n,y,cs,hN,h=>by
  obtain⟨xs,m,rfl,rfl,hlen,hxl,hall⟩:=DataW.trod_struct underlying25 h;rw[cells25] at hlen
  match xs,hxl,cs,hlen with
  |[x0,x1,x2,x3,x4],_,[c0,c1,c2,c3,c4],_=>
   have f0:DataW.trod enc Tryz.prog W b0 sp1 held m 3 [c0]=some x0:=by have:=hall 0 _ rfl;simpa[cells3] using this
   have f1:DataW.trod enc Tryz.prog W b0 sp1 held m 9 [c1]=some x1:=by have:=hall 1 _ rfl;simpa[cells3,cells9] using this
   have f2:DataW.trod enc Tryz.prog W b0 sp1 held m 3 [c2]=some x2:=by have:=hall 2 _ rfl;simpa[cells3,cells9] using this
   have f3:DataW.trod enc Tryz.prog W b0 sp1 held m 3 [c3]=some x3:=by have:=hall 3 _ rfl;simpa[cells3,cells9] using this
   have f4:DataW.trod enc Tryz.prog W b0 sp1 held m 23 [c4]=some x4:=by have:=hall 4 _ rfl;simpa[cells3,cells9,cells23] using this
   have hb:Rows.uptoBulk x4.1+4≤Rows.uptoBulk (DataW.agg (H:=H) ([x0,x1,x2,x3,x4].map (·.1))):=by
    have:=D2 x0.1;have:=D2 x1.1;have:=D2 x2.1;have:=D2 x3.1;simp only[Rows.uptoBulk,Rows.uptoBulkAll,List.map_cons,List.map_nil] at *;omega
   have hN':Rows.uptoBulk (DataW.agg (H:=H) ([x0,x1,x2,x3,x4].map (·.1)))≤N+1:=hN;obtain⟨k,rfl,_⟩:=Gz f0;obtain⟨s,e1,hs⟩:=rd_str f1;obtain⟨a,rfl,_⟩:=Gz f2;obtain⟨b,rfl,_⟩:=Gz f3;obtain⟨q,l,cap,e2,ha,hc,hl,hf,hsum⟩:=open_arr (el:=encPd) (φ:=fun u=>PdM W [] u∧NmP u) (szf:=Pdm.sz) underlying23 cells25 qom (fun n cs y hy h=>rd_pd N qom h) f4;simp at e1 e2;refine⟨.mk k s a b q cap l,by rw[e1,e2];rfl,⟨.mk ha fun a h=>(hf a h).1,fun a ha=> ?_⟩,?_⟩
   ·rw[Gg] at ha;rcases List.mem_cons.1 ha with rfl|ha
    ·exact hs
    ·obtain⟨x,hx,hax⟩:=prtPL_in ha;exact(hf x hx).2 a hax
   rw[H6,show (Pdm.mk k s a b q cap l).subs=l from rfl,szPL_sum];exact Nat.le_trans (by omega:(l.map Pdm.sz).sum+1≤Rows.uptoBulk x4.1+4) hb
theorem rd_po:∀ (N:Nat) {n:Nat} {y:DataW H × List MemPlace} {cs:List Value},Rows.uptoBulk y.1≤N→DataW.trod enc Tryz.prog W b0 sp1 held n 28 cs=some y→∃ u:Pom,cs=encPo u∧(PoM W [] u∧NmO u)∧u.sz≤Rows.uptoBulk y.1
 |0,n,y,cs,hN,_=>by have:=D2 y.1;omega
 |N+1,n,y,cs,hN,h=>by
  obtain⟨xs,m,rfl,rfl,hlen,hxl,hall⟩:=DataW.trod_struct underlying28 h;rw[cells28] at hlen
  match xs,hxl,cs,hlen with
  |[x0,x1,x2,x3,x4],_,[c0,c1,c2,c3,c4,c5,c6,c7,c8],_=>
   have f0:DataW.trod enc Tryz.prog W b0 sp1 held m 3 [c0]=some x0:=by have:=hall 0 _ rfl;simpa[cells3] using this
   have f1:DataW.trod enc Tryz.prog W b0 sp1 held m 25 [c1,c2,c3,c4,c5]=some x1:=by have:=hall 1 _ rfl;simpa[cells3,cells25] using this
   have f2:DataW.trod enc Tryz.prog W b0 sp1 held m 9 [c6]=some x2:=by have:=hall 2 _ rfl;simpa[cells3,cells25,cells9] using this
   have f3:DataW.trod enc Tryz.prog W b0 sp1 held m 3 [c7]=some x3:=by have:=hall 3 _ rfl;simpa[cells3,cells25,cells9] using this
   have f4:DataW.trod enc Tryz.prog W b0 sp1 held m 26 [c8]=some x4:=by have:=hall 4 _ rfl;simpa[cells3,cells25,cells9,cells26] using this
   have hb:Rows.uptoBulk x4.1+Rows.uptoBulk x1.1+3≤Rows.uptoBulk (DataW.agg (H:=H) ([x0,x1,x2,x3,x4].map (·.1))):=by
    have:=D2 x0.1;have:=D2 x2.1;have:=D2 x3.1;simp only[Rows.uptoBulk,Rows.uptoBulkAll,List.map_cons,List.map_nil] at *;omega
   have hN':Rows.uptoBulk (DataW.agg (H:=H) ([x0,x1,x2,x3,x4].map (·.1)))≤N+1:=hN;obtain⟨k,rfl,_⟩:=Gz f0;obtain⟨pm,ep,⟨hp1,hp2⟩,hpz⟩:=rd_pd _ (Nat.le_refl _) f1;obtain⟨s,e1,hs⟩:=rd_str f2;obtain⟨a,rfl,_⟩:=Gz f3;obtain⟨q,l,cap,e2,ha,hc,hl,hf,hsum⟩:=open_arr (el:=encPo) (φ:=fun u=>PoM W [] u∧NmO u) (szf:=Pom.sz) underlying26 cells28 qom (fun n cs y hy h=>rd_po N qom h) f4;simp only[List.cons.injEq,and_true] at e1 e2;refine⟨.mk k pm s a q cap l,?_,⟨.mk hp1 ha fun a h=>(hf a h).1,fun a ha=> ?_⟩,?_⟩
   ·rw[e1,e2];show Value.int .i64 k::([c1,c2,c3,c4,c5]++[.string s, .int .i64 a, .slice q l.length cap])=_;rw[ep];rfl
   ·rw[Gh] at ha;rcases List.mem_cons.1 ha with rfl|ha
    ·exact⟨hs,hp2⟩
    ·obtain⟨x,hx,hax⟩:=prtOL_in ha;exact(hf x hx).2 a hax
   rw[Eo,show (Pom.mk k pm s a q cap l).subs=l from rfl,show (Pom.mk k pm s a q cap l).pr=pm from rfl,szOL_sum];exact Nat.le_trans (by omega:(l.map Pom.sz).sum+pm.sz+1≤Rows.uptoBulk x4.1+Rows.uptoBulk x1.1+3) hb
theorem Gl {base:Nat}{r:_root_.Go.Reach}{v:Value}{d:DataW H}{p:List MemPlace}(hv:Value.okWide Tryz.prog W r base 28 v)(h:DataW.Trod enc Tryz.prog W b0 sp1 held 28 v d p):∃ u:Pom,v= .agg (encPo u).toArray∧PoM W [] u∧NmO u∧u.sz≤Rows.uptoBulk d:=by
 obtain⟨cs,rfl,hsz⟩:=okWide_struct underlying28 hv;obtain⟨fuel,hf⟩:=h;obtain⟨l⟩:=cs;obtain⟨u,e,⟨h1,h2⟩,hu⟩:=rd_po _ (Nat.le_refl _) hf;simp only[Value.cells] at e;exact⟨u,by rw[← e],h1,h2,hu⟩
theorem open_fis {base:Nat}{r:_root_.Go.Reach}{v:Value}{d:DataW H}{p:List MemPlace}(hv:Value.okWide Tryz.prog W r base 22 v)(h:DataW.Trod enc Tryz.prog W b0 sp1 held 22 v d p):∃ (q:Option Addr) (l:List Fi) (cap:Nat),v= .slice q l.length cap∧Arr W [] q 3 encFi l∧∀ f∈l,f.nm.size≤9223372036854775807:=by
 obtain⟨a0,len0,cap0,rfl⟩:=okWide_slice underlying22 hv;obtain⟨fuel,hf⟩:=h;obtain⟨q,l,cap,e,a,c,b,f,_⟩:=open_arr (el:=encFi) (φ:=fun u=>u.nm.size≤9223372036854775807) (szf:=fun _=>0) underlying22 cells67 qom (fun n cs y _ h=>by obtain⟨u,h1,h2⟩:=rd_fi h;exact⟨u,h1,h2,Nat.zero_le _⟩) hf;simp only[Value.cells,List.cons.injEq,and_true] at e;exact⟨q,l,cap,e,a,f⟩
end
end Go.Proofs.YtkojjapnfdlddaaGreat
namespace Go.Proofs.YtkojjapnfdlddaaGreat
open _root_.Go.Proofs.Tryz
open Go.ChangeShapes Go.WideShapes Go.ChangeAt Go.RowKit Go.Joins
set_option linter.unusedVariables false
set_option linter.unusedSimpArgs false
set_option linter.unusedSectionVars false
set_option maxRecDepth 100000
section
variable {H:Type} {enc:TypeId × Value→H} {W:World}
theorem laid_out:laidOutB Tryz.prog=true:=by kernel_rfl
theorem trodAll_stays:∀ {ts:List TypeId} {vs:List Value} {ds:List (DataW H)} {ps:List MemPlace} {W':World},(∀ t∈ts,Tryz.prog.readableRec t=true∧t<Tryz.prog.types.size)→DataW.TrodAll enc Tryz.prog W 0 (fun _=>true) true ts vs ds ps→Below W.heap.size W W'→(∀ x∈ps,x.block<W.heap.size)→
  DataW.TrodAll enc Tryz.prog W' 0 (fun b=>decide (b<W.heap.size)) true ts vs ds ps
 |[],_,_,_,_,_,h,_,_=>by obtain⟨rfl,rfl,rfl⟩:=trodAll_nil h;exact trodAll_mk0
 |t::ts,_,_,_,_,hr,h,hb,hlt=>by
  obtain⟨v,vs,d,ds,p,q,rfl,rfl,rfl,h0,r0⟩:=trodAll_cons h;exact trodAll_cons_mk (Below.trod laid_out (hr t (by simp)).1 (hr t (by simp)).2 h0 hb (fun x hx=>hlt x (by simp[hx]))) (trodAll_stays (fun t ht=>hr t (by simp[ht])) r0 hb (fun x hx=>hlt x (by simp[hx])))
end
theorem calls_true {f:FuncId}{args:Array Value}{W:World}(h:FSpec Tryz.prog W f args [] (Still (.bool true) [])):Calls Tryz.prog f args W fun e W'=>e= .returned (.bool true)∧Below W.heap.size W W':=
 (h W (Own.start W)).mono fun e W' ⟨v,H',he,hO,hv,_⟩=>⟨by rw[he,hv],hO.below⟩
noncomputable def laidWorld (os:Os):World:=World.holding Tryz.prog os ⟨#[],#[],[]⟩
end Go.Proofs.YtkojjapnfdlddaaGreat

/- Parts of the proof: what single Go functions compute, each with its walk, and plain laws over these. -/
import Derived.Test.YtggemblkhckbpaaGreatDoorVMac
import Derived.Test.YtggemblkhckbpaaGreatDoorM0
namespace Go.Proofs.YtggemblkhckbpaaGreatDoor.Q
open Go.RowKit Go.Proofs.YtggemblkhckbpaaGreatDoorW.PrintWords Go.Proofs.YtggemblkhckbpaaGreatDoorW.PrintLast Go.Proofs.YtggemblkhckbpaaGreatDoorW.PrintMore
open Go.RowKit renaming wrap64 → ζm
open Go.Proofs.YtggemblkhckbpaaGreatDoorW.PrintWords.Aside0 renaming mk → ζa
open Go.Proofs.YtggemblkhckbpaaGreatDoorW.PrintWords renaming gate_dst → δx, below_step → δr, below_alloc → δk, pw_below_drewN → δi, below_drew1 → δj, box_event → δz, below_size → δs, blk_drew → δp
open List renaming map_toArray → δd, map_cons → δe, map_nil → δf, setIfInBounds_toArray → δa, set_cons_zero → δb, set_cons_succ → δc
open Go.Act renaming put → ζl
open Bool renaming true → τ, false → φ
attribute [local go_sem] max2_int min2_int max_two min_two max_three min_three max_four min_four   -- for this text's walks alone
set_option linter.unusedVariables false
set_option linter.unusedSimpArgs false
set_option maxHeartbeats 8000000
set_option maxRecDepth 100000


/-! ### impl_hash: function 79 -/
def impl_hash.st (K W0:List Int) (t:ByteArray):Nat→List Int
 | 0=>W0
 | i+1=>impl_blockHash.out (impl_hash.st K W0 t i) K (t.extract (64 * i) (64 * i+64))
def impl_hash.n4 (n:Int):ByteArray:=strOfNums [n / 256 / 256 / 256 % 256,n / 256 / 256 % 256,n / 256 % 256,n % 256]
def impl_hash.n8 (n:Int):ByteArray:=strOfNums [n / 256 / 256 / 256 / 256 / 256 / 256 / 256 % 256,n / 256 / 256 / 256 / 256 / 256 / 256 % 256,n / 256 / 256 / 256 / 256 / 256 % 256,n / 256 / 256 / 256 / 256 % 256,n / 256 / 256 / 256 % 256,n / 256 / 256 % 256,n / 256 % 256,n % 256]
theorem impl_hash.step (k:Nat) (x0:Int) (x5:List Int) (i:Int) (h:0≤i) (h2:i<(x5.length:Int)):impl_number.l0 (k+1) x0 x5 i=impl_number.l0 k (x0 / 256) (x5.set i.toNat (x0 % 256)) (ζm (i - 1)):=by
 rw [impl_number.l0,if_pos h,if_pos h,if_pos h2]
theorem impl_hash.stop (k:Nat) (x0:Int) (x5:List Int) (i:Int) (h : ¬ 0≤i):impl_number.l0 (k+1) x0 x5 i=some (strOfNums x5):=by
 rw [impl_number.l0,if_neg h]
theorem impl_hash.num4 (n:Int):impl_number.f 6 n 4=some (impl_hash.n4 n):=by
 unfold impl_number.f
 rw [if_pos (by decide),if_pos (by decide)]
 rw [show (List.replicate (Int.toNat 4) (0:Int)) = [0,0,0,0] from rfl,show ζm ((4:Int) - 1)=3 from by kernel_rfl]
 rw [impl_hash.step 5 (n) [0,0,0,0] 3 (by decide) (by simp)]
 rw [show ζm ((3:Int) - 1)=2 from by kernel_rfl]
 show impl_number.l0 5 (n / 256) [0,0,0,n % 256] (2)=_
 rw [impl_hash.step 4 (n / 256) [0,0,0,n % 256] 2 (by decide) (by simp)]
 rw [show ζm ((2:Int) - 1)=1 from by kernel_rfl]
 show impl_number.l0 4 (n / 256 / 256) [0,0,n / 256 % 256,n % 256] (1)=_
 rw [impl_hash.step 3 (n / 256 / 256) [0,0,n / 256 % 256,n % 256] 1 (by decide) (by simp)]
 rw [show ζm ((1:Int) - 1)=0 from by kernel_rfl]
 show impl_number.l0 3 (n / 256 / 256 / 256) [0,n / 256 / 256 % 256,n / 256 % 256,n % 256] (0)=_
 rw [impl_hash.step 2 (n / 256 / 256 / 256) [0,n / 256 / 256 % 256,n / 256 % 256,n % 256] 0 (by decide) (by simp)]
 rw [show ζm ((0:Int) - 1)=(-1) from by kernel_rfl]
 show impl_number.l0 2 (n / 256 / 256 / 256 / 256) [n / 256 / 256 / 256 % 256,n / 256 / 256 % 256,n / 256 % 256,n % 256] (-1)=_
 rw [impl_hash.stop 1 (n / 256 / 256 / 256 / 256) _ (-1) (by decide)]
 rfl
theorem impl_hash.num8 (n:Int):impl_number.f 10 n 8=some (impl_hash.n8 n):=by
 unfold impl_number.f
 rw [if_pos (by decide),if_pos (by decide)]
 rw [show (List.replicate (Int.toNat 8) (0:Int)) = [0,0,0,0,0,0,0,0] from rfl,show ζm ((8:Int) - 1)=7 from by kernel_rfl]
 rw [impl_hash.step 9 (n) [0,0,0,0,0,0,0,0] 7 (by decide) (by simp)]
 rw [show ζm ((7:Int) - 1)=6 from by kernel_rfl]
 show impl_number.l0 9 (n / 256) [0,0,0,0,0,0,0,n % 256] (6)=_
 rw [impl_hash.step 8 (n / 256) [0,0,0,0,0,0,0,n % 256] 6 (by decide) (by simp)]
 rw [show ζm ((6:Int) - 1)=5 from by kernel_rfl]
 show impl_number.l0 8 (n / 256 / 256) [0,0,0,0,0,0,n / 256 % 256,n % 256] (5)=_
 rw [impl_hash.step 7 (n / 256 / 256) [0,0,0,0,0,0,n / 256 % 256,n % 256] 5 (by decide) (by simp)]
 rw [show ζm ((5:Int) - 1)=4 from by kernel_rfl]
 show impl_number.l0 7 (n / 256 / 256 / 256) [0,0,0,0,0,n / 256 / 256 % 256,n / 256 % 256,n % 256] (4)=_
 rw [impl_hash.step 6 (n / 256 / 256 / 256) [0,0,0,0,0,n / 256 / 256 % 256,n / 256 % 256,n % 256] 4 (by decide) (by simp)]
 rw [show ζm ((4:Int) - 1)=3 from by kernel_rfl]
 show impl_number.l0 6 (n / 256 / 256 / 256 / 256) [0,0,0,0,n / 256 / 256 / 256 % 256,n / 256 / 256 % 256,n / 256 % 256,n % 256] (3)=_
 rw [impl_hash.step 5 (n / 256 / 256 / 256 / 256) [0,0,0,0,n / 256 / 256 / 256 % 256,n / 256 / 256 % 256,n / 256 % 256,n % 256] 3 (by decide) (by simp)]
 rw [show ζm ((3:Int) - 1)=2 from by kernel_rfl]
 show impl_number.l0 5 (n / 256 / 256 / 256 / 256 / 256) [0,0,0,n / 256 / 256 / 256 / 256 % 256,n / 256 / 256 / 256 % 256,n / 256 / 256 % 256,n / 256 % 256,n % 256] (2)=_
 rw [impl_hash.step 4 (n / 256 / 256 / 256 / 256 / 256) [0,0,0,n / 256 / 256 / 256 / 256 % 256,n / 256 / 256 / 256 % 256,n / 256 / 256 % 256,n / 256 % 256,n % 256] 2 (by decide) (by simp)]
 rw [show ζm ((2:Int) - 1)=1 from by kernel_rfl]
 show impl_number.l0 4 (n / 256 / 256 / 256 / 256 / 256 / 256) [0,0,n / 256 / 256 / 256 / 256 / 256 % 256,n / 256 / 256 / 256 / 256 % 256,n / 256 / 256 / 256 % 256,n / 256 / 256 % 256,n / 256 % 256,n % 256] (1)=_
 rw [impl_hash.step 3 (n / 256 / 256 / 256 / 256 / 256 / 256) [0,0,n / 256 / 256 / 256 / 256 / 256 % 256,n / 256 / 256 / 256 / 256 % 256,n / 256 / 256 / 256 % 256,n / 256 / 256 % 256,n / 256 % 256,n % 256] 1 (by decide) (by simp)]
 rw [show ζm ((1:Int) - 1)=0 from by kernel_rfl]
 show impl_number.l0 3 (n / 256 / 256 / 256 / 256 / 256 / 256 / 256) [0,n / 256 / 256 / 256 / 256 / 256 / 256 % 256,n / 256 / 256 / 256 / 256 / 256 % 256,n / 256 / 256 / 256 / 256 % 256,n / 256 / 256 / 256 % 256,n / 256 / 256 % 256,n / 256 % 256,n % 256] (0)=_
 rw [impl_hash.step 2 (n / 256 / 256 / 256 / 256 / 256 / 256 / 256) [0,n / 256 / 256 / 256 / 256 / 256 / 256 % 256,n / 256 / 256 / 256 / 256 / 256 % 256,n / 256 / 256 / 256 / 256 % 256,n / 256 / 256 / 256 % 256,n / 256 / 256 % 256,n / 256 % 256,n % 256] 0 (by decide) (by simp)]
 rw [show ζm ((0:Int) - 1)=(-1) from by kernel_rfl]
 show impl_number.l0 2 (n / 256 / 256 / 256 / 256 / 256 / 256 / 256 / 256) [n / 256 / 256 / 256 / 256 / 256 / 256 / 256 % 256,n / 256 / 256 / 256 / 256 / 256 / 256 % 256,n / 256 / 256 / 256 / 256 / 256 % 256,n / 256 / 256 / 256 / 256 % 256,n / 256 / 256 / 256 % 256,n / 256 / 256 % 256,n / 256 % 256,n % 256] (-1)=_
 rw [impl_hash.stop 1 (n / 256 / 256 / 256 / 256 / 256 / 256 / 256 / 256) _ (-1) (by decide)]
 rfl
def impl_hash.zeros (n:Nat):ByteArray:=⟨(Lib.repeatL (⟨#[0]⟩:ByteArray).data.toList n).toArray⟩
def impl_hash.tx (ST:List Int):Nat→ByteArray
 | 0=>⟨#[]⟩
 | j+1=>impl_hash.tx ST j ++ impl_hash.n4 (ζm (rd ST (j:Int)))
theorem impl_hash.out_len (words kk:List Int) (b:ByteArray) (h:words.length=8):(impl_blockHash.out words kk b).length=8:=by
 unfold impl_blockHash.out
 rw [impl_blockHash.adds_len,impl_blockHash.rounds_len _ _ _ h]
theorem impl_hash.st_len (K W0:List Int) (t:ByteArray) (h:W0.length=8) : ∀ i,(impl_hash.st K W0 t i).length=8
 | 0=>h
 | i+1=>impl_hash.out_len _ _ _ (impl_hash.st_len K W0 t h i)
theorem impl_hash.n4_size (n:Int):(impl_hash.n4 n).size=4:=by simp [impl_hash.n4,strOfNums,ByteArray.size]
theorem impl_hash.tx_size (ST:List Int) : ∀ j,(impl_hash.tx ST j).size=4 * j
 | 0=>rfl
 | j+1=>by unfold impl_hash.tx;rw [ByteArray.size_append,impl_hash.tx_size ST j,impl_hash.n4_size];omega
theorem impl_hash.zeros_size (n:Nat):(impl_hash.zeros n).size=n:=by
 have key : ∀ n:Nat,(Lib.repeatL [(0:UInt8)] n).length=n:=by
  intro n
  induction n with
  | zero=>rfl
  | succ n ih=>simp [Lib.repeatL,ih]
 show (Lib.repeatL [(0:UInt8)] n).toArray.size=n
 rw [List.size_toArray,key]
theorem impl_hash.n8_size (n:Int):(impl_hash.n8 n).size=8:=by simp [impl_hash.n8,strOfNums,ByteArray.size]
theorem impl_hash.index_row {W:World} {L:List Int} {j:Nat} (hL:L.length=8) (hj:j<8):(Instr.index 113 (.agg ((L.map (Value.int .u32)).toArray)) (.int .i64 (j:Int))).run Tryz.prog W = .ok (.int .u32 (rd L (j:Int))) W:=by
 have hu8:=Tryz.underlying113
 have hu36:=Tryz.underlying112
 have ld:=arr_get (L:=L) (i:=j) (by omega)
 have hi:(Tryz.prog.info? 112).map (·.size)=some 1:=by kernel_rfl
 have hj8:((j:Int)<8):=by omega
 cases hq:Tryz.prog.info? 112 with
 | none=>rw [hq] at hi;cases hi
 | some ti =>
  have hs:ti.size=1:=by rw [hq] at hi;exact Option.some.inj hi
  unfold Instr.index
  simp [asIntOf,hu8,hu36,part,isAgg,sizeOf,typeInfo,hq,hs,hj8,Sem.run_bind,run_underlying]
  rw [List.getElem?_toArray,List.getElem?_map] at ld
  rw [if_pos hj,ld]
  rfl
def impl_hash.v (s:ByteArray):ByteArray:=impl_hash.tx (impl_hash.st (impl_roundWords.f.getD []) (impl_hashWords.f.getD []) (((s ++ (⟨#[128]⟩:ByteArray)) ++ impl_hash.zeros ((119 - s.size % 64) % 64)) ++ impl_hash.n8 (8 * (s.size:Int))) ((((s ++ (⟨#[128]⟩:ByteArray)) ++ impl_hash.zeros ((119 - s.size % 64) % 64)) ++ impl_hash.n8 (8 * (s.size:Int))).size / 64)) 8
def impl_hash.T6:Bool × List (List Nat × List Nat):=(τ,[([],[]),([],[]),([],[]),([],[]),([],[]),([4],[4]),([2,3,5],[2,3,5]),([0,1,6],[0,1,6]),([7,7,0,1,2,3,4,5,6,7],[7])])
def impl_hash.B6:List Nat:=[0,0,0,0,0,16,60,127,255]
theorem impl_hash.tab6:rtab .any (opsOf Tryz.f79 6)=impl_hash.T6:=by kernel_rfl
theorem impl_hash.bits6:waitsOk impl_hash.T6.2 impl_hash.B6=τ:=by kernel_rfl
theorem impl_hash.run (s:ByteArray) (w:World) (hs:s.size≤1000000) :
  Calls Tryz.prog 79 #[.string s] w fun e w'=>e = .returned (.string (impl_hash.v s))∧Below w.heap.size w w':=by
 have hu8:=Tryz.underlying113
 have hu64:=Tryz.underlying115
 have hu9:=Tryz.underlying9
 have HB:=ζa (Below.refl w.heap.size w)
 go_enter Tryz.func79,Tryz.ntmps79
 obtain ⟨c,hc⟩ : ∃ c:Nat,c=(119 - s.size % 64) % 64:=⟨_,rfl⟩
 have hc64:c<64:=by rw [hc];omega
 have e16:(119 - (s.size:Int) % 64) % 64=(c:Int):=by omega
 have hr:strings_Repeat.f (⟨#[0]⟩:ByteArray) (c:Int)=some (impl_hash.zeros c):=by
  unfold strings_Repeat.f impl_hash.zeros
  rw [if_pos ⟨by omega,by omega,by decide⟩,Int.toNat_natCast]
 have HR:=ζa hr
 have HCC:=ζa hc
 have hz:=impl_hash.zeros_size c
 have h8:=impl_hash.n8_size (8 * (s.size:Int))
 clear hc
 have HN:=ζa (impl_hash.num8 (8 * (s.size:Int)))
 clear hr
 go_upto_region 2 with (first
  | ((with_reducible refine δx (N:=17) rfl ?_);refine goesL_ (some 17) rfl rfl Tryz.func117 (by kernel_rfl) rfl #[.string (⟨#[0]⟩:ByteArray),.int .i64 (c:Int)] rfl (by (try simp only [δd,δe,δf]);first|done|rfl|(rw [← e16];rfl)) ?_;(with_reducible refine (strings_Repeat.calls _ _ _ _ HR.out).mono ?_);rintro e w_ ⟨rfl,hb⟩;refine ⟨_,rfl,?_⟩;have n0_:=ζa (δr (by repeat (first|exact HB.out|apply δk|apply δi|apply δj)) hb);clear HB;have HB:=n0_;clear n0_ hb)
  | ((with_reducible refine δx (N:=22) rfl ?_);refine goesL_ (some 22) rfl rfl Tryz.func82 (by kernel_rfl) rfl #[.int .i64 (8 * (s.size:Int)),.int .i64 8] rfl (by (try simp only [δd,δe,δf]);first|done|rfl) ?_;(with_reducible refine (impl_number.calls 10 _ _ _ _ HN.out).mono ?_);rintro e w_ ⟨rfl,hb⟩;refine ⟨_,rfl,?_⟩;have n0_:=ζa (δr (by repeat (first|exact HB.out|apply δk|apply δi|apply δj)) hb);clear HB;have HB:=n0_;clear n0_ hb))
 obtain ⟨ALL,hALL⟩ : ∃ t:ByteArray,t=((s ++ (⟨#[128]⟩:ByteArray)) ++ impl_hash.zeros c) ++ impl_hash.n8 (8 * (s.size:Int)):=⟨_,rfl⟩
 have hsz:ALL.size=s.size+1+c+8:=by
  rw [hALL,ByteArray.size_append,ByteArray.size_append,ByteArray.size_append,hz,h8]
  rfl
 rw [← hALL]
 obtain ⟨nb,hnb⟩ : ∃ n:Nat,ALL.size=64 * n:=⟨ALL.size / 64,by rw [hsz];have:=HCC.out;omega⟩
 have HALL:=ζa hALL
 have HNB:=ζa hnb
 have HSZ:=ζa hsz
 clear hALL hnb hsz hz h8 e16 HR HN
 obtain ⟨W0,hW0⟩ : ∃ l:List Int,impl_hashWords.f=some l:=⟨_,rfl⟩
 obtain ⟨KK,hK⟩ : ∃ l:List Int,impl_roundWords.f=some l:=⟨_,rfl⟩
 have lW:W0.length=8:=by have e:=Option.some.inj hW0;rw [← e];rfl
 have lK:KK.length=64:=by have e:=Option.some.inj hK;rw [← e];rfl
 have HW0:=ζa hW0
 have HK:=ζa hK
 have LW:=ζa lW
 have LK:=ζa lK
 clear hW0 hK lW lK
 go_wp2_with (first
  | ((with_reducible refine δx (N:=24) rfl ?_);refine goesL_ (some 24) rfl rfl Tryz.func118 (by kernel_rfl) rfl #[] rfl (by (try simp only [δd,δe,δf]);first|done|rfl) ?_;(with_reducible refine (impl_hashWords.calls _ _ HW0.out).mono ?_);rintro e w_ ⟨rfl,hb⟩;refine ⟨_,rfl,?_⟩;replace HB:=ζa (δr (by repeat (first|exact HB.out|apply δk|apply δi|apply δj)) hb);clear hb)
  | ((with_reducible refine δx (N:=25) rfl ?_);refine goesL_ (some 25) rfl rfl Tryz.func119 (by kernel_rfl) rfl #[] rfl (by (try simp only [δd,δe,δf]);first|done|rfl) ?_;(with_reducible refine (impl_roundWords.calls _ _ HK.out).mono ?_);rintro e w_ ⟨rfl,hb⟩;refine ⟨_,rfl,?_⟩;replace HB:=ζa (δr (by repeat (first|exact HB.out|apply δk|apply δi|apply δj)) hb);clear hb)
  | ((with_reducible refine δx (N:=4) rfl ?_);refine δz ?hg (N:=4) ?hd (cs:=(((List.replicate 8 (0:Int)).map (Value.int .u32)).toArray)) (t:=113) ?hr ?_;(case hd=>rfl);(case hg=>rfl);(case hr=>first|(go_simp;done)|(go_simp;rfl));intro g4 hg w_ hbox hb;have G4:=ζa ((by rw [hg];exact δs (show Below w.heap.size w _ from by repeat (first|exact HB.out|apply δk|apply δi|apply δj))):w.heap.size≤g4);replace HB:=ζa (δr (by repeat (first|exact HB.out|apply δk|apply δi|apply δj)) hb);have B4:=ζa hbox;clear hb hbox hg)
  | ((with_reducible refine δx (N:=5) rfl ?_);refine δz ?hg (N:=5) ?hd (cs:=(((List.replicate 64 (0:Int)).map (Value.int .u32)).toArray)) (t:=115) ?hr ?_;(case hd=>rfl);(case hg=>rfl);(case hr=>first|(go_simp;done)|(go_simp;rfl));intro g5 hg w_ hbox hb;have G5:=ζa ((by rw [hg];exact δs (show Below w.heap.size w _ from by repeat (first|exact HB.out|apply δk|apply δi|apply δj))):w.heap.size≤g5);have n0_:=ζa (blk_below B4.out hb);have n1_:=ζa (δr (by repeat (first|exact HB.out|apply δk|apply δi|apply δj)) hb);clear B4 HB;have B4:=n0_;have HB:=n1_;clear n0_ n1_;have B5:=ζa hbox;clear hb hbox hg)
  | ((with_reducible refine gate_store (t:=113) (p:=4) rfl ?_);refine row_event2 rfl 113 (.tmp 4) (.tmp 24) rfl g4 ((W0.map (Value.int .u32)).toArray) ?hx ?hy B4.out ?hi ?ho arr_one ?_;(case hx=>rfl);(case hy=>rfl);(case hi=>(rw [arr_size,LW.out];kernel_rfl));(case ho=>(rw [arr_size,arr_size,LW.out];rfl));intro w1 hw1;have n0_:Aside0 (Below w.heap.size w w1):=⟨by rw [hw1];exact setRow_below HB.out G4.out⟩;have n1_:Aside0 (w1.heap[g4]? = some (.cells ((W0.map (Value.int .u32)).toArray) 113 (0,0))):=⟨by rw [hw1];exact setRow_self B4.out⟩;have m0_:Aside0 (w1.heap[g5]? = some (.cells (((List.replicate 64 (0:Int)).map (Value.int .u32)).toArray) 115 (0,0))):=⟨by rw [hw1];exact (setRow_other (blk_ne B4.out B5.out (by decide))).trans B5.out⟩;clear B4 HB B5 hw1;have HB:=n0_;have B4:=n1_;have B5:=m0_;clear n0_ n1_ m0_)
  | ((with_reducible refine gate_store (t:=115) (p:=5) rfl ?_);refine row_event2 rfl 115 (.tmp 5) (.tmp 25) rfl g5 ((KK.map (Value.int .u32)).toArray) ?hx ?hy B5.out ?hi ?ho arr_one ?_;(case hx=>rfl);(case hy=>rfl);(case hi=>(rw [arr_size,LK.out];kernel_rfl));(case ho=>(rw [arr_size,arr_size,LK.out];rfl));intro w1 hw1;have n0_:Aside0 (Below w.heap.size w w1):=⟨by rw [hw1];exact setRow_below HB.out G5.out⟩;have n1_:Aside0 (w1.heap[g5]? = some (.cells ((KK.map (Value.int .u32)).toArray) 115 (0,0))):=⟨by rw [hw1];exact setRow_self B5.out⟩;have m0_:Aside0 (w1.heap[g4]? = some (.cells ((W0.map (Value.int .u32)).toArray) 113 (0,0))):=⟨by rw [hw1];exact (setRow_other (blk_ne B5.out B4.out (by decide))).trans B4.out⟩;clear B5 HB B4 hw1;have HB:=n0_;have B5:=n1_;have B4:=m0_;clear n0_ n1_ m0_))
 go_loopg [6] nb (fun kq v6 w' => ∃ i:Nat,v6 = .int .i64 ((64 * i:Nat):Int)∧Aside0 (i+kq=nb)∧Aside0 (w'.heap[g4]? = some (.cells (((impl_hash.st KK W0 ALL i).map (Value.int .u32)).toArray) 113 (0,0)))∧Aside0 (w'.heap[g5]? = some (.cells ((KK.map (Value.int .u32)).toArray) 115 (0,0)))∧Aside0 (Below w.heap.size w w'))
 case atStart=>exact ⟨0,rfl,⟨by omega⟩,⟨by repeat (exact B4.out)⟩,⟨by repeat (exact B5.out)⟩,⟨by repeat (exact HB.out)⟩⟩
 case round =>
  clear B4 B5 HB
  obtain ⟨i,rfl,HI,B4,B5,HB⟩:=hrel
  cases gk with
  | zero =>
   have hi:i=nb:=HI.out
   subst hi
   have hn:(64 * i:Nat)=ALL.size:=HNB.out.symm
   rw [hn]
   obtain ⟨ST,hST⟩ : ∃ l:List Int,l=impl_hash.st KK W0 ALL i:=⟨_,rfl⟩
   rw [← hST] at B4
   have L8:=ζa (show ST.length=8 by rw [hST];exact impl_hash.st_len KK W0 ALL LW.out i)
   have HOUT:=ζa (show impl_hash.v s=impl_hash.tx ST 8 by
    unfold impl_hash.v
    rw [hST]
    have eW:=HW0.out
    have eK:=HK.out
    have eA:=HALL.out
    have eC:=HCC.out
    have eN:=HNB.out
    rw [← eC,← eA,eN,Nat.mul_div_cancel_left _ (by decide:0<64),eW,eK]
    rfl)
   have HST:=ζa hST
   clear hST hn HI
   go_wp2_with (first
    | ((with_reducible refine δx (N:=40) rfl ?_);refine wpList_load_row rfl 113 (.tmp 4) rfl g4 ?hx _ ((ST.map (Value.int .u32)).toArray) (0,0) _ B4.out hu8 rfl ?hi ?_;(case hx=>rfl);(case hi=>(rw [arr_size,L8.out];kernel_rfl))))
   go_loopg [7,41] 8 (fun kq v7 v41 w' => ∃ j:Nat,v41 = .int .i64 (j:Int)∧v7 = .string (impl_hash.tx ST j)∧Aside0 (j+kq=8)∧Aside0 (Below w.heap.size w w'))
   case atStart=>exact ⟨0,rfl,rfl,⟨rfl⟩,⟨by repeat (exact HB.out)⟩⟩
   case round =>
    clear B4 B5 HB
    obtain ⟨j,rfl,rfl,HI,HB⟩:=hrel
    cases gk with
    | zero =>
     have hi:j=8:=HI.out
     subst hi
     go_wp2
     go_ret
     exact ⟨by rw [HOUT.out];rfl,HB.out⟩
    | succ k1 =>
     have hi:=HI.out
     have hi8:(j:Int)<8:=by omega
     have c8:decide ((j:Int)<8)=τ:=decide_eq_true hi8
     have x8:((j:Int)<8)=True:=eq_true hi8
     have z0:(0≤(j:Int))=True:=eq_true (by omega)
     have ld:=fun W:World=>impl_hash.index_row (W:=W) L8.out (j:=j) (by omega)
     have HN4:=ζa (impl_hash.num4 (ζm (rd ST (j:Int))))
     have t1:=impl_hash.tx_size ST j
     have t2:=impl_hash.n4_size (ζm (rd ST (j:Int)))
     have INC:=ζa (show ζm ((j:Int)+1)=((j+1:Nat):Int) by rw [IntWalk.wrap64_in _ ⟨by omega,by omega⟩];rfl)
     clear hi
     go_wp2_with (first
      | ((with_reducible refine δx (N:=47) rfl ?_);refine goesL_ (some 47) rfl rfl Tryz.func82 (by kernel_rfl) rfl #[.int .i64 (ζm (rd ST (j:Int))),.int .i64 4] rfl (by (try simp only [δd,δe,δf]);first|done|rfl) ?_;(with_reducible refine (impl_number.calls 6 _ _ _ _ HN4.out).mono ?_);rintro e w_ ⟨rfl,hb⟩;refine ⟨_,rfl,?_⟩;have n0_:=ζa (δr (by repeat (first|exact HB.out|apply δk|apply δi|apply δj)) hb);clear HB;have HB:=n0_;clear n0_ hb))
     go_roundg k1
     case measure=>omega
     case rel=>exact ⟨j+1,by first|rfl|rw [INC.out],rfl,⟨by have:=HI.out;omega⟩,HB⟩
  | succ k1 =>
   have hi:=HI.out
   have hlt:(((64 * i:Nat):Int)<(ALL.size:Int)):=by rw [HNB.out];omega
   have c1:decide (((64 * i:Nat):Int)<(ALL.size:Int))=τ:=decide_eq_true hlt
   have hsm:ALL.size≤1000100:=by rw [HSZ.out];omega
   obtain ⟨a0,ha0⟩ : ∃ n:Nat,n=64 * i:=⟨_,rfl⟩
   rw [← ha0]
   rw [← ha0] at hlt c1
   have inc:ζm ((a0:Int)+64)=(a0:Int)+64:=IntWalk.wrap64_in _ ⟨by omega,by omega⟩
   have hle:a0+64≤ALL.size:=by rw [HNB.out,ha0];omega
   have sl : ∀ W:World,(Instr.slice 9 (.string ALL) (some (.int .i64 (a0:Int))) (some (.int .i64 ((a0:Int)+64))) none).run Tryz.prog W = .ok (.string (ALL.extract a0 (a0+64))) W:=fun W=>by
    have e:=run_slice_string (P:=Tryz.prog) W 9 ALL .i64 .i64 (a0:Int) ((a0:Int)+64) hu9 (by omega) (by omega) (by omega)
    rwa [show ((a0:Int)+64).toNat=a0+64 by omega,Int.toNat_natCast] at e
   have x1:((a0:Int)<(ALL.size:Int))=True:=eq_true hlt
   have x2:(a0<ALL.size)=True:=eq_true (by omega)
   have L8:=ζa (show (impl_hash.st KK W0 ALL i).length=8 from impl_hash.st_len KK W0 ALL LW.out i)
   have HA0:=ζa ha0
   have HLT:=ζa hlt
   have HLE:=ζa hle
   have HSM:=ζa hsm
   clear hi hlt hsm ha0 hle
   obtain ⟨ST,hST⟩ : ∃ l:List Int,l=impl_hash.st KK W0 ALL i:=⟨_,rfl⟩
   rw [← hST] at B4 L8
   have HST:=ζa hST
   clear hST
   have ext64:(ALL.extract a0 (a0+64)).size=64:=by rw [ByteArray.size_extract];have:=HLE.out;omega
   have E64:=ζa ext64
   clear ext64
   go_upto_region 6 with (fail)
   try go_wp2
   have n0_:=ζa (δp B4.out)
   have n1_:=ζa (δp B5.out)
   clear B4 B5
   have B4:=n0_
   have B5:=n1_
   clear n0_ n1_
   replace HB:=ζa (δj HB.out)
   refine sta 9 (fun w'=>w'.heap[g4]? = some (.cells ((ST.map (Value.int .u32)).toArray) 113 (0,0))∧w'.heap[g5]? = some (.cells ((KK.map (Value.int .u32)).toArray) 115 (0,0))) [8] impl_hash.tab6 impl_hash.bits6 ⟨B4.out,B5.out⟩ (fun hHeld HT_ HW_ => ?_)
   generalize wr.drew=wd_ at B4 B5 HB hHeld ⊢
   refine take_ (i:=0) (N:=some 32) (v:=?_) (a':=?_) #[τ,φ,φ,φ,φ,φ,φ,φ,φ] rfl rfl (take_ofW HT_.out HW_.out (by kernel_rfl)) (fun _ _ _ h=>h) (Or.inl ⟨by rfl,?_⟩) hHeld ?_ ?_
   rotate_left
   ·
    rintro w' ⟨s0,s1⟩
    refine impl_blockHash.exec_load (ty:=113) (x:=.tmp 4) ?_ ?_ s0 hu8 rfl ((show _=some 8 from by kernel_rfl).trans (congrArg some (show 8=_ by rw [arr_size,L8.out])))
    · rfl
    ·
     rfl
   rotate_left
   · simp only [ζl,δa,δb,δc,i64_w,i32_w];rfl
   refine take_ (i:=1) (N:=some 33) (v:=?_) (a':=?_) #[τ,τ,φ,φ,φ,φ,φ,φ,φ] rfl rfl (take_ofW HT_.out HW_.out (by kernel_rfl)) (fun _ _ _ h=>h) (Or.inl ⟨by rfl,?_⟩) hHeld ?_ ?_
   rotate_left
   ·
    rintro w' ⟨s0,s1⟩
    refine impl_blockHash.exec_load (ty:=115) (x:=.tmp 5) ?_ ?_ s1 hu64 rfl ((show _=some 64 from by kernel_rfl).trans (congrArg some (show 64=_ by rw [arr_size,LK.out])))
    · rfl
    ·
     rfl
   rotate_left
   · simp only [ζl,δa,δb,δc,i64_w,i32_w];rfl
   refine pu 2 34 ?_
   refine pu 3 35 ?_
   refine pu 4 36 ?_
   refine pu 5 37 ?_
   refine pu 6 38 ?_
   refine on 7 39 (fun K hK => ?_)
   refine gs Tryz.func120 #[.agg ((ST.map (Value.int .u32)).toArray),.agg ((KK.map (Value.int .u32)).toArray),.string (ALL.extract a0 (a0+64))] ?_
   with_reducible refine (impl_blockHash.calls ST KK (ALL.extract a0 (a0+64)) _ L8.out LK.out E64.out).mono ?_
   rintro e w_ ⟨rfl,hb⟩
   refine ⟨_,rfl,?_⟩
   have n0_:=ζa (blk_below B4.out hb)
   have n1_:=ζa (blk_below B5.out hb)
   have n2_:=ζa (δr (by repeat (exact HB.out)) hb)
   clear B4 B5 HB
   have B4:=n0_
   have B5:=n1_
   have HB:=n2_
   clear n0_ n1_ n2_
   clear hb
   refine hK.out _ _ ⟨B4.out,B5.out⟩ (fun hHeld => ?_)
   clear hK K
   refine nm 39 ?_
   refine last_ (i:=8) (N:=none) #[τ,τ,τ,τ,τ,τ,τ,τ,τ] rfl rfl (one_of HT_.out (by kernel_rfl)) (by decide) (fun K hK => ?_)
   refine skip_ (w1:=w_.setRow g4 (((impl_blockHash.out ST KK (ALL.extract a0 (a0+64))).map (Value.int .u32)).toArray)) (by rfl) rfl ?_ ?_
   ·
    refine impl_blockHash.exec_store (ty:=113) (x:=.tmp 4) (y:=.tmp 39) ?_ ?_ ?_ B4.out ?_ ?_ arr_one
    · rfl
    ·
     rfl
    · rfl
    ·
     rw [arr_size,impl_hash.out_len _ _ _ L8.out];kernel_rfl
    · rw [arr_size,arr_size,impl_hash.out_len _ _ _ L8.out,L8.out]
   have n0_:=ζa (setRow_self (cs:=(((impl_blockHash.out ST KK (ALL.extract a0 (a0+64))).map (Value.int .u32)).toArray)) B4.out)
   have n1_:=ζa ((setRow_other (cs:=(((impl_blockHash.out ST KK (ALL.extract a0 (a0+64))).map (Value.int .u32)).toArray)) (blk_ne B4.out B5.out (by decide))).trans B5.out)
   have n2_:=ζa (setRow_below (cs:=(((impl_blockHash.out ST KK (ALL.extract a0 (a0+64))).map (Value.int .u32)).toArray)) HB.out G4.out)
   clear B4 B5 HB
   have B4:=n0_
   have B5:=n1_
   have HB:=n2_
   clear n0_ n1_ n2_
   refine hK.out _ _ ?_
   clear hK K
   refine done_ (done_of HT_.out (by kernel_rfl)) ?_
   go_wp2
   go_roundg k1
   case measure=>omega
   case rel =>
    have hR:impl_hash.st KK W0 ALL (i+1)=impl_blockHash.out ST KK (ALL.extract a0 (a0+64)):=by rw [HST.out,HA0.out];rfl
    refine ⟨i+1,?_,⟨by have:=HI.out;omega⟩,⟨?_⟩,⟨by repeat (exact B5.out)⟩,⟨by repeat (exact HB.out)⟩⟩
    ·
     first
      | (rw [INC.out,HA0.out];rfl)
      | (congr 1;have:=HA0.out;omega)
    ·
     rw [hR]
     exact B4.out
def impl_hash.f (a0:ByteArray):Option ByteArray:=if a0.size≤1000000 then some (impl_hash.v a0) else none
theorem impl_hash.calls (a0:ByteArray) (r:ByteArray) (w:World) (h:impl_hash.f a0=some r) :
  Calls Tryz.prog 79 #[.string a0] w fun e w'=>e = .returned (.string r)∧Below w.heap.size w w':=by
 unfold impl_hash.f at h
 split at h
 ·
  rename_i hc
  cases h
  exact impl_hash.run a0 w hc
 · cases h


open Go.Proofs.YtggemblkhckbpaaGreatDoorW.PrintWords renaming gate_dst → δx, below_step → δr, blk_cell → δl, blk_frozen → δm, gate_callee → δv
set_option maxHeartbeats 8000000
set_option maxRecDepth 100000

/-! ### impl_Packet_hash: function 38 -/
def impl_Packet_hash.f (k:Nat) (a0_0:Int) (a0_1:Int) (a0_2:ByteArray):Option (ByteArray):=(impl_Packet_bytes.f k a0_0 a0_1 a0_2).bind fun t181=>(if 6+t181.size≤9223372036854775807 then ((impl_hash.f ((⟨#[112,97,99,107,101,116]⟩:ByteArray) ++ t181)).bind fun t182=>(some t182)) else (none))
theorem impl_Packet_hash.calls (k:Nat) (a0_0:Int) (a0_1:Int) (a0_2:ByteArray) (r:ByteArray) (w:World) (h:impl_Packet_hash.f k a0_0 a0_1 a0_2=some r) :
  Calls Tryz.prog 38 #[.agg #[.int .i64 a0_0,.int .i64 a0_1,.string a0_2]] w fun e w'=>e = .returned (.string r)∧Below w.heap.size w w':=by
 have hu36:=Tryz.underlying36
 have HB:=ζa (Below.refl w.heap.size w)
 have H:((impl_Packet_bytes.f k a0_0 a0_1 a0_2).bind fun t181=>(if 6+t181.size≤9223372036854775807 then ((impl_hash.f ((⟨#[112,97,99,107,101,116]⟩:ByteArray) ++ t181)).bind fun t182=>(some t182)) else (none)))=some r:=h
 clear h
 obtain ⟨t181,A2,H⟩:=bsm H
 by_cases c3:6+t181.size≤9223372036854775807
 ·
  rw [if_pos c3] at H
  have c3b0:=eq_true c3
  have c3b1:=decide_eq_true c3
  try have c3b2:(9223372036854775807<6+t181.size)=False:=eq_false (Nat.not_lt.2 c3)
  obtain ⟨t182,A4,H⟩:=bsm H
  obtain rfl:=Option.some.inj H
  go_enter Tryz.func38,Tryz.ntmps38
  go_wp2_with (first|((with_reducible refine δx (N:=1) rfl ?_);refine bev 1 #[.int .i64 a0_0,.int .i64 a0_1,.string a0_2] 36 ?_;intro gb180 hg w5 hbox hb;have BK180:=ζa (hbox);have GW180:=ζa (gbw hg (by exact HB.out));have GE180:=ζa (gbw hg (by exact HB.out));replace HB:=ζa (δr (by exact HB.out) hb);clear hb hbox hg;have hcz6_0:w5.cell? ⟨gb180,0,none⟩=some (.int .i64 a0_0):=(δl BK180.out 0).trans rfl;have hcz6_1:w5.cell? ⟨gb180,1,none⟩=some (.int .i64 a0_1):=(δl BK180.out 1).trans rfl;have hcz6_2:w5.cell? ⟨gb180,2,none⟩=some (.string a0_2):=(δl BK180.out 2).trans rfl;have hfz6_0:=δm BK180.out 0;have hfz6_1:=δm BK180.out 1;have hfz6_2:=δm BK180.out 2)|((with_reducible refine δv (f:=41) rfl ?_);refine gl 4 Tryz.func41 #[.agg #[.int .i64 a0_0,.int .i64 a0_1,.string a0_2]] ?_;(with_reducible refine (impl_Packet_bytes.calls k a0_0 a0_1 a0_2 t181 _ A2.out).mono ?_);rintro e w7 ⟨rfl,hb⟩;refine ⟨_,rfl,?_⟩;replace BK180:=ζa (blk_below (g:=gb180) (o:=.cells #[.int .i64 a0_0,.int .i64 a0_1,.string a0_2] 36 (0,0)) (by exact BK180.out) hb);replace HB:=ζa (δr (by exact HB.out) hb);(try clear hb);(try clear hb2);(try clear hk);(try clear hi))|((with_reducible refine δv (f:=79) rfl ?_);refine gl 6 Tryz.func79 #[.string ((⟨#[112,97,99,107,101,116]⟩:ByteArray) ++ t181)] ?_;(with_reducible refine (impl_hash.calls ((⟨#[112,97,99,107,101,116]⟩:ByteArray) ++ t181) t182 _ A4.out).mono ?_);rintro e w8 ⟨rfl,hb⟩;refine ⟨_,rfl,?_⟩;replace BK180:=ζa (blk_below (g:=gb180) (o:=.cells #[.int .i64 a0_0,.int .i64 a0_1,.string a0_2] 36 (0,0)) (by exact BK180.out) hb);replace HB:=ζa (δr (by exact HB.out) hb);(try clear hb);(try clear hb2);(try clear hk);(try clear hi)))
  go_ret
  exact ⟨by rfl,by repeat ((with_reducible exact HB.out))⟩
 ·
  rw [if_neg c3] at H
  exact absurd H (by simp)


open Go.Proofs.YtggemblkhckbpaaGreatDoorW.PrintWords renaming gate_dst → δx, below_size → δs, below_step → δr
set_option maxHeartbeats 8000000
set_option maxRecDepth 100000

/-! ### impl_twoDigits: function 113 -/
def impl_twoDigits.f (a0:Int):Option (ByteArray):=some (strOfNums (([(ζm (48+(ζm (Int.tdiv a0 10)))) % 256,(ζm (48+(Int.tmod a0 10))) % 256]:List Int)))
theorem impl_twoDigits.calls (a0:Int) (r:ByteArray) (w:World) (h:impl_twoDigits.f a0=some r) :
  Calls Tryz.prog 113 #[.int .i64 a0] w fun e w'=>e = .returned (.string r)∧Below w.heap.size w w':=by
 have HB:=ζa (Below.refl w.heap.size w)
 have H:(some (strOfNums (([(ζm (48+(ζm (Int.tdiv a0 10)))) % 256,(ζm (48+(Int.tmod a0 10))) % 256]:List Int))))=some r:=h
 clear h
 obtain ⟨y183,hy183⟩ : ∃ y_:List Int,y_=(([(ζm (48+(ζm (Int.tdiv a0 10)))) % 256,(ζm (48+(Int.tmod a0 10))) % 256]:List Int)):=⟨_,rfl⟩
 replace H:(some (strOfNums y183))=some r:=by (rw [hy183];with_reducible exact H)
 have Ny183:=ζa hy183
 clear hy183
 obtain rfl:=Option.some.inj H
 go_enter Tryz.func113,Tryz.ntmps113
 go_wp2_with (((with_reducible refine δx (N:=11) rfl ?_);refine Kd.R_lit (Kd.int .u8) _ 5 ?hg (N:=11) ?hd (xs:=([(ζm (48+(ζm (Int.tdiv a0 10)))) % 256,(ζm (48+(Int.tmod a0 10))) % 256]:List Int)) (inner:=[.int .u8 ((ζm (48+(ζm (Int.tdiv a0 10)))) % 256),.int .u8 ((ζm (48+(Int.tmod a0 10))) % 256)]) (ok:=fun _=>True) (okp:=fun _=>True) ?hr ?hp (fun _ hk=>hk) trivial (Below.refl _ _) (Nat.le_refl _) (by simp) ?_;(case hd=>rfl);(case hg=>rfl);(case hr=>(go_simp;done));(case hp=>exact (Reps.one (show Kd.M (Kd.int .u8) _ _ _ ((ζm (48+(ζm (Int.tdiv a0 10)))) % 256) [.int .u8 ((ζm (48+(ζm (Int.tdiv a0 10)))) % 256)] from rfl) (Reps.one (show Kd.M (Kd.int .u8) _ _ _ ((ζm (48+(Int.tmod a0 10))) % 256) [.int .u8 ((ζm (48+(Int.tmod a0 10))) % 256)] from rfl) (Reps.none _ _))));intro v184 w2 ho3 hb hg_ hnew_;clear hg_ hnew_;(rw [← Ny183.out] at ho3);have HO185:=ζa (Kd.R_lower ho3 (δs (by exact HB.out)));replace HB:=ζa (δr (by exact HB.out) hb);clear hb ho3;have hcv4:=own_string (P:=Tryz.prog) Tryz.underlying22 Tryz.underlying5 Tryz.underlying9 (Kd.own_of_R HO185.out)))
 go_ret
 exact ⟨by rfl,by repeat ((with_reducible exact HB.out))⟩


open Go.Proofs.YtggemblkhckbpaaGreatDoorW.PrintWords renaming gate_callee → δv, below_step → δr
set_option maxHeartbeats 8000000
set_option maxRecDepth 100000

/-! ### impl_commitKey: function 74 -/
def impl_commitKey.f (a0:Int):Option (ByteArray):=(impl_twoDigits.f a0).bind fun t186=>(if 2+t186.size≤9223372036854775807 then (some ((⟨#[99,47]⟩:ByteArray) ++ t186)) else (none))
theorem impl_commitKey.calls (a0:Int) (r:ByteArray) (w:World) (h:impl_commitKey.f a0=some r) :
  Calls Tryz.prog 74 #[.int .i64 a0] w fun e w'=>e = .returned (.string r)∧Below w.heap.size w w':=by
 have HB:=ζa (Below.refl w.heap.size w)
 have H:((impl_twoDigits.f a0).bind fun t186=>(if 2+t186.size≤9223372036854775807 then (some ((⟨#[99,47]⟩:ByteArray) ++ t186)) else (none)))=some r:=h
 clear h
 obtain ⟨t186,A2,H⟩:=bsm H
 by_cases c3:2+t186.size≤9223372036854775807
 ·
  rw [if_pos c3] at H
  have c3b0:=eq_true c3
  have c3b1:=decide_eq_true c3
  try have c3b2:(9223372036854775807<2+t186.size)=False:=eq_false (Nat.not_lt.2 c3)
  obtain rfl:=Option.some.inj H
  go_enter Tryz.func74,Tryz.ntmps74
  go_wp2_with (((with_reducible refine δv (f:=113) rfl ?_);refine gl 4 Tryz.func113 #[.int .i64 a0] ?_;(with_reducible refine (impl_twoDigits.calls a0 t186 _ A2.out).mono ?_);rintro e w4 ⟨rfl,hb⟩;refine ⟨_,rfl,?_⟩;replace HB:=ζa (δr (by exact HB.out) hb);(try clear hb);(try clear hb2);(try clear hk);(try clear hi)))
  go_ret
  exact ⟨by rfl,by repeat ((with_reducible exact HB.out))⟩
 ·
  rw [if_neg c3] at H
  exact absurd H (by simp)


open Go.Proofs.YtggemblkhckbpaaGreatDoorW.PrintWords renaming below_drew1 → δj, blk_cell → δl, below_step → δr
open Bool renaming true → τ
set_option maxHeartbeats 8000000
set_option maxRecDepth 100000


/-! ### impl_sendPacket_2: function 72 -/
def impl_sendPacket_2.T1:Bool × List (List Nat × List Nat):=(τ,[([],[]),([],[]),([1],[1]),([],[]),([3,2],[3]),([0,2,4,4],[0,2,4]),([5],[5]),([5],[5]),([6,5,0,1,2,3,4,5,6,7],[6]),([7,8,0,1,2,3,4,5,6,7,8],[7])])
def impl_sendPacket_2.B1:List Nat:=[0,0,2,0,14,31,63,63,255,511]
theorem impl_sendPacket_2.tab1:rtab .any (opsOf Tryz.f72 1)=impl_sendPacket_2.T1:=by kernel_rfl
theorem impl_sendPacket_2.bits1:waitsOk impl_sendPacket_2.T1.2 impl_sendPacket_2.B1=τ:=by kernel_rfl
theorem impl_sendPacket_2.calls (k:Nat) (A0:Option Addr) (c0:Nat) (l0:List S61) (pq:Addr) (gp:Nat) (q t:Int) (d:ByteArray) (r1:List S61) (r2:Int) (w:World) (hr0:Kd.C k61 w A0 l0.length l0) (hc0:l0.length≤c0) (hq:w.cell? pq=some (.int .i64 q)) (hp:w.heap[gp]? = some (.cells #[.int .i64 q,.int .i64 t,.string d] 36 (0,0)))
  (h:((impl_commitKey.f q).bind fun key=>(impl_Packet_hash.f k q t d).bind fun hh=>impl_put.f k l0 key hh)=some (r1,r2)) :
  Calls Tryz.prog 72 #[.slice A0 l0.length c0,.pointer (some pq),.pointer (some ⟨gp,0,none⟩)] w fun e w' => ∃ v0_:Value,e = .returned (.tuple #[v0_,.int .i64 r2])∧(r2=0→Kd.R k61 61 w' w.heap.size (fun _=>True) v0_ r1)∧Below w.heap.size w w':=by
 obtain ⟨key,H1,h⟩:=bsm h
 obtain ⟨hh,H2,h⟩:=bsm h
 have H3:=ζa h
 have HR0:=ζa hr0
 have HC0:=ζa hc0
 have Hq:=ζa hq
 have Hp:=ζa hp
 have HB:=ζa (Below.refl w.heap.size w)
 clear h hr0 hc0
 go_enter Tryz.func72,Tryz.ntmps72
 go_wp2_with fail
 replace HB:=ζa (δj HB.out)
 refine sta 10 (fun w'=>w'.cell? pq=some (.int .i64 q)∧w'.cell? ⟨gp,0,none⟩=some (.int .i64 q)∧w'.cell? ⟨gp,1,none⟩=some (.int .i64 t)∧w'.cell? ⟨gp,2,none⟩=some (.string d)) [] impl_sendPacket_2.tab1 impl_sendPacket_2.bits1 ⟨impl_sendPacket_1.keep HB.out Hq.out,(δl (blk_below Hp.out HB.out) 0).trans rfl,(δl (blk_below Hp.out HB.out) 1).trans rfl,(δl (blk_below Hp.out HB.out) 2).trans rfl⟩ (fun hHeld HT_ HW_ => ?_)
 generalize w.drew=w0 at HB hHeld ⊢
 refine pu 0 6 ?_
 refine ta 1 7 ?_
 refine ta 3 9 ?_
 refine on 2 8 (fun K hK => ?_)
 refine gs Tryz.func74 #[.int .i64 q] ?_
 refine (impl_commitKey.calls q key _ H1.out).mono ?_
 rintro e w_ ⟨rfl,hb⟩
 refine ⟨_,rfl,?_⟩
 replace HB:=ζa (δr HB.out hb)
 clear hb
 refine hK.out _ _ ⟨impl_sendPacket_1.keep HB.out Hq.out,(δl (blk_below Hp.out HB.out) 0).trans rfl,(δl (blk_below Hp.out HB.out) 1).trans rfl,(δl (blk_below Hp.out HB.out) 2).trans rfl⟩ (fun hHeld=>nm 8 ?_)
 clear hK K
 refine on 4 10 (fun K hK => ?_)
 refine gs Tryz.func38 #[.agg #[.int .i64 q,.int .i64 t,.string d]] ?_
 refine (impl_Packet_hash.calls k q t d hh _ H2.out).mono ?_
 rintro e w_ ⟨rfl,hb⟩
 refine ⟨_,rfl,?_⟩
 replace HB:=ζa (δr HB.out hb)
 clear hb
 refine hK.out _ _ ⟨impl_sendPacket_1.keep HB.out Hq.out,(δl (blk_below Hp.out HB.out) 0).trans rfl,(δl (blk_below Hp.out HB.out) 1).trans rfl,(δl (blk_below Hp.out HB.out) 2).trans rfl⟩ (fun hHeld=>nm 10 ?_)
 clear hK K
 refine on 5 11 (fun K hK => ?_)
 refine gs Tryz.func73 #[.slice A0 l0.length c0,.string key,.string hh] ?_
 refine (impl_put.calls k A0 c0 l0 key hh r1 r2 _ (Kd.C_below HR0.out HB.out) HC0.out H3.out).mono ?_
 rintro e w_ ⟨v5,rfl,ho,hb⟩
 refine ⟨_,rfl,?_⟩
 have HO:=ζa (Kd.R_lower ho HB.out.size)
 clear ho
 replace HB:=ζa (δr HB.out hb)
 clear hb
 refine hK.out _ _ ⟨impl_sendPacket_1.keep HB.out Hq.out,(δl (blk_below Hp.out HB.out) 0).trans rfl,(δl (blk_below Hp.out HB.out) 1).trans rfl,(δl (blk_below Hp.out HB.out) 2).trans rfl⟩ (fun hHeld=>nm 11 ?_)
 clear hK K
 refine pu 6 12 ?_
 refine pu 7 13 ?_
 refine pu 8 4 ?_
 refine pu 9 5 ?_
 refine done_ (done_of HT_.out (by kernel_rfl)) ?_
 go_wp2
 go_ret2
 exact ⟨_,rfl,fun _=>HO.out,HB.out⟩


open Go.Proofs.YtggemblkhckbpaaGreatDoorW.PrintWords renaming below_step → δr, below_alloc → δk, gate_dst → δx, blk_cell → δl, blk_frozen → δm, blk_put → δw, below_set → δq, blk_alloc → δo, blk_drew → δp, below_drew1 → δj
open Go.Proofs.YtggemblkhckbpaaGreatDoorW.PrintWords.Kd renaming R_drew → ζe
set_option maxHeartbeats 8000000
set_option maxRecDepth 100000


/-! ### impl_sendPacket: function 34 -/
theorem impl_sendPacket.row {w:World} {g:Nat} {t:TypeId} (xs:List FV) (hm:xs.length≤1000) (h:w.heap[g]? = some (.cells (xs.map encF).toArray t (0,0))):kF.C w (some ⟨g,0,none⟩) xs.length xs:=by
 refine ⟨rfl,by omega,fun _=>⟨_,rfl,fun j p hp=>⟨[encF p],rfl,rfl,fun t u hu => ?_⟩⟩⟩
 obtain ⟨rfl,rfl⟩:t=0∧u=encF p:=by
  rcases t with _|t
  · simpa using hu.symm
  ·
   simp at hu
 rw [Addr.add_lit,cell_of_row w g _ _ _ (0,0) h]
 have:kF.sz=1:=rfl
 simp [this,hp]
theorem impl_sendPacket.gn {P:Program} {c:Code} {K:Exit→Act→World→Prop} {a:Act} {W:World} (S:World→Prop) (hW:S W) (h : ∀ w',S w'→Code.wp P c K a w'):Code.wp P c K a W:=h W hW
theorem impl_sendPacket.bx2 {P:Program} {ops:Array Oper} {rest:List Oper} {o:Oper} {a:Act} {Q:Exit→Act→World→Prop} (w:World) {W:World} (N:Tmp) (cs:Array Value) (t:TypeId)
  (h : ∀ g w1,Aside0 (w1.heap[g]? = some (.cells cs t (0,0)))→Aside0 (w.heap.size≤g)→Aside0 (Below w.heap.size w w1)→Below W.heap.size W w1→W.heap.size≤g→wpList P ops Q rest (a.put o.dst (.pointer (some ⟨g,0,none⟩))) w1)
  (hN:o.dst=some N:=by exact rfl) (hgd:o.guard=none:=by exact rfl)
  (hrun:(execOp a.eval o).run P W = .ok (.value (.pointer (some ⟨W.heap.size,0,none⟩))) (W.alloc (.cells cs t (0,0))):=by (go_simp;done))
  (HB:Below w.heap.size w W:=by exact blw):wpList P ops Q (o :: rest) a W :=
 Kd.event_run hgd hrun (h _ _ ⟨blk_new W _⟩ ⟨HB.size⟩ ⟨δr HB (δk (Below.refl _ _) _)⟩ (δk (Below.refl _ _) _) (Nat.le_refl _))
theorem impl_sendPacket.ls {P:Program} {ops:Array Oper} {Q:Exit→Act→World→Prop} {S:World→Prop} {ds:List Nat} {md:Region.Mode} {fuel:Nat} {l:Array Bool} {a:Act} {w:World} {oi:Oper} (i:Nat)
  (h : ∀ K:Act→World→Prop,Shut (∀ a' w',wpAnyLast P md ops Q S ds fuel (l.setIfInBounds i τ) a' w'→K a' w')→if Region.wanted oi (yielded ops a.tmps)=τ then Oper.wp P oi a w K Q else K (a.put none undef) w)
  (hi:ops[i]? = some oi:=by exact rfl) (hN:oi.dst=none:=by exact rfl) (hc:readyB md ops l (l.setIfInBounds i τ) i=τ:=by exact one_of HT_.out (by kernel_rfl)) (hd:i ∈ ds:=by decide):wpAnyLast P md ops Q S ds (fuel+1) l a w :=
 last_ _ hi hN hc hd h
def impl_sendPacket.Fs (k:Nat) (q t:Int) (d:ByteArray):List (List S61→Option (List S61 × Int)):=[fun l=>impl_putAmount.f k l (⟨#[110,47,115,101,110,100]⟩:ByteArray) q,fun l=>(impl_commitKey.f q).bind fun key=>(impl_Packet_hash.f k q t d).bind fun hh=>impl_put.f k l key hh]
def impl_sendPacket.f (k:Nat) (l0:List S61) (a1:ByteArray) (a2:Int):Option (List S61 × Int × Int × ByteArray × Int) :=
 (impl_amountAt.f k l0 (⟨#[110,47,115,101,110,100]⟩:ByteArray)).bind fun x=>if ζm (x+1) > 99 then ((slices_Clone_impl_Pair_impl_Pair.f l0).bind fun y=>some (y,0,0,(⟨#[]⟩:ByteArray),7)) else ((impl_all.f k l0 (impl_sendPacket.Fs k (ζm (x+1)) a2 a1)).bind fun y=>if y.2=0 then some (y.1,ζm (x+1),a2,a1,0) else some (y.1,0,0,(⟨#[]⟩:ByteArray),y.2))
def impl_sendPacket.T8:Bool × List (List Nat × List Nat):=(τ,[([],[]),([],[]),([0,0],[0]),([1,2,0,1,2],[1]),([3,0,1,2,3],[])])
def impl_sendPacket.B8:List Nat:=[0,0,1,7,15]
theorem impl_sendPacket.tab8:rtab .any (opsOf Tryz.f34 8)=impl_sendPacket.T8:=by kernel_rfl
theorem impl_sendPacket.bits8:waitsOk impl_sendPacket.T8.2 impl_sendPacket.B8=τ:=by kernel_rfl
theorem impl_sendPacket.calls (k:Nat) (A0:Option Addr) (c0:Nat) (l0:List S61) (a1:ByteArray) (a2:Int) (r1:List S61) (r2 r3:Int) (r4:ByteArray) (r5:Int) (w:World) (hr0:Kd.C k61 w A0 l0.length l0) (hc0:l0.length≤c0) (hT0:TabsOK w) (h:impl_sendPacket.f k l0 a1 a2=some (r1,r2,r3,r4,r5)) :
  Calls Tryz.prog 34 #[.slice A0 l0.length c0,.string a1,.int .i64 a2] w fun e w' => ∃ v0_:Value,e = .returned (.tuple #[v0_,.agg #[.int .i64 r2,.int .i64 r3,.string r4],.int .i64 r5])∧Kd.R k61 61 w' w.heap.size (fun _=>True) v0_ r1∧Below w.heap.size w w':=by
 obtain ⟨x,H1,h⟩:=bsm h
 have HR0:=ζa hr0
 have HC0:=ζa hc0
 have HT0:=ζa hT0
 have HB:=ζa (Below.refl w.heap.size w)
 have HH:=ζa h
 clear h hr0 hc0 hT0
 go_enter Tryz.func34,Tryz.ntmps34
 go_wp2_with (first
  | ((with_reducible refine δx (N:=7) rfl ?_);refine bx w 7 #[.int .i64 0,.int .i64 0,.string (⟨#[]⟩:ByteArray)] 36 ?_;intro g7 w7 B7 G7 HB hb;clear hb))
 refine (impl_amountAt.calls k A0 c0 l0 _ x _ (Kd.C_below HR0.out HB.out) HC0.out (HT0.out.below HB.out) H1.out).mono ?_
 rintro e w1 ⟨rfl,hb⟩
 replace B7:=ζa (blk_below B7.out hb)
 replace HB:=ζa (δr HB.out hb)
 clear hb
 go_upto_region 2 with (first
  | ((with_reducible refine δx (N:=9) rfl ?_);refine impl_sendPacket.bx2 w 9 #[.int .i64 0] 3 ?_;intro g9 w9 B9 G9 HB hb hn;have E79:=ζa (show g7≠g9 from fun e=>by have:=blk_lt B7.out;omega);replace B7:=ζa (blk_below B7.out hb);have hv0:=(δl B9.out 0).trans rfl;have hvf:=δm B9.out 0;clear hb hn))
 refine impl_sendPacket.gn (fun w'=>w'.heap[g7]? = some (.cells #[.int .i64 0,.int .i64 0,.string (⟨#[]⟩:ByteArray)] 36 (0,0))∧w'.heap[g9]? = some (.cells #[.int .i64 (ζm (x+1))] 3 (0,0))∧Below w.heap.size w w') ⟨blk_far B7.out E79.out _,δw B9.out 0 _ rfl,δq HB.out G9.out⟩ ?_
 clear B7 B9 hv0 hvf HB
 rintro w2 ⟨b7,b9,hb⟩
 have B7:=ζa b7;have B9:=ζa b9;have HB:=ζa hb
 clear b7 b9 hb
 have hv0:=(δl B9.out 0).trans rfl
 generalize ζm (x+1)=q at *
 have h:=HH.out
 clear HH
 by_cases c1:q > 99
 ·
  rw [if_pos c1] at h
  obtain ⟨y,H2,h⟩:=bsm h
  simp only [Option.some.injEq,Prod.mk.injEq] at h
  obtain ⟨rfl,rfl,rfl,rfl,rfl⟩:=h
  have b1:decide (q > 99)=τ:=decide_eq_true c1
  clear c1
  go_wp2_with fail
  refine (slices_Clone_impl_Pair_impl_Pair.calls A0 c0 l0 y _ (Kd.C_below HR0.out HB.out) HC0.out H2.out).mono ?_
  rintro e w3 ⟨v3,rfl,ho,hb⟩
  have HO:=ζa (Kd.R_lower ho HB.out.size)
  replace B7:=ζa (blk_below B7.out hb)
  replace HB:=ζa (δr HB.out hb)
  clear hb ho hv0
  have hx0:=(δl B7.out 0).trans rfl;have hx1:=(δl B7.out 1).trans rfl;have hx2:=(δl B7.out 2).trans rfl
  have hf0:=δm B7.out 0;have hf1:=δm B7.out 1;have hf2:=δm B7.out 2
  go_wp2
  refine bodyPost_ret (results_list (rs:=[.tmp 6,.cell 7 36,.tmp 8]) rfl (by simp) (.tmp (.cell g7 36 #[.int .i64 0,.int .i64 0,.string (⟨#[]⟩:ByteArray)] (0,0) _ rfl (δw (cs':=#[.int .i64 0,.int .i64 0,.string (⟨#[]⟩:ByteArray)]) (δw (cs':=#[.int .i64 0,.int .i64 0,.string (⟨#[]⟩:ByteArray)]) (δw (cs':=#[.int .i64 0,.int .i64 0,.string (⟨#[]⟩:ByteArray)]) B7.out 0 (.int .i64 0) rfl) 1 (.int .i64 0) rfl) 2 (.string (⟨#[]⟩:ByteArray)) rfl) Tryz.underlying36 rfl (by kernel_rfl) (.tmp .nil)))) rfl ?_
  exact ⟨_,rfl,Kd.R_set (Kd.R_set (Kd.R_set HO.out B7.out (by decide) _ _) (δw (cs':=#[.int .i64 0,.int .i64 0,.string (⟨#[]⟩:ByteArray)]) B7.out 0 (.int .i64 0) rfl) (by decide) _ _) (δw (cs':=#[.int .i64 0,.int .i64 0,.string (⟨#[]⟩:ByteArray)]) (δw (cs':=#[.int .i64 0,.int .i64 0,.string (⟨#[]⟩:ByteArray)]) B7.out 0 (.int .i64 0) rfl) 1 (.int .i64 0) rfl) (by decide) _ _,δq (δq (δq HB.out G7.out) G7.out) G7.out⟩
 rw [if_neg c1] at h
 obtain ⟨⟨y,yc⟩,H2,h⟩:=bsm h
 have HH:=ζa h
 have b1:decide (q > 99)=φ:=decide_eq_false c1
 clear c1 h
 go_upto_region 5 with (first
  | ((with_reducible refine δx (N:=10) rfl ?_);refine impl_sendPacket.bx2 w 10 #[.int .i64 0,.int .i64 0,.string (⟨#[]⟩:ByteArray)] 36 ?_;intro ga wa BA GA HB hb hn;have EA7:=ζa (show g7≠ga from fun e=>by have:=blk_lt B7.out;omega);have EA9:=ζa (show g9≠ga from fun e=>by have:=blk_lt B9.out;omega);replace B7:=ζa (blk_below B7.out hb);replace B9:=ζa (blk_below B9.out hb);have hy0:=(δl BA.out 0).trans rfl;have hy1:=(δl BA.out 1).trans rfl;have hy2:=(δl BA.out 2).trans rfl;have hg0:=δm BA.out 0;have hg1:=δm BA.out 1;have hg2:=δm BA.out 2;clear hb hn))
 refine impl_sendPacket.gn (fun w'=>w'.heap[g7]? = some (.cells #[.int .i64 0,.int .i64 0,.string (⟨#[]⟩:ByteArray)] 36 (0,0))∧w'.heap[g9]? = some (.cells #[.int .i64 q] 3 (0,0))∧w'.heap[ga]? = some (.cells #[.int .i64 q,.int .i64 a2,.string a1] 36 (0,0))∧Below w.heap.size w w') ⟨blk_far (blk_far (blk_far B7.out EA7.out _) EA7.out _) EA7.out _,blk_far (blk_far (blk_far B9.out EA9.out _) EA9.out _) EA9.out _,(δw (cs':=#[.int .i64 q,.int .i64 a2,.string a1]) (δw (cs':=#[.int .i64 q,.int .i64 a2,.string (⟨#[]⟩:ByteArray)]) (δw (cs':=#[.int .i64 q,.int .i64 0,.string (⟨#[]⟩:ByteArray)]) BA.out 0 (.int .i64 q) rfl) 1 (.int .i64 a2) rfl) 2 (.string a1) rfl),δq (δq (δq HB.out GA.out) GA.out) GA.out⟩ ?_
 clear B7 B9 BA hv0 HB hy0 hy1 hy2 hg0 hg1 hg2
 rintro w3 ⟨b7,b9,ba,hb⟩
 have B7:=ζa b7;have B9:=ζa b9;have BA:=ζa ba;have HB:=ζa hb
 clear b7 b9 ba hb
 go_wp2_with fail
 have HB1:Aside0 (Below w.heap.size w (w3.alloc (.cells ([((70,#[.pointer (some ⟨g9,0,none⟩)]):FV),(72,#[.pointer (some ⟨g9,0,none⟩),.pointer (some ⟨ga,0,none⟩)])].map encF).toArray 85))):=⟨δk HB.out _⟩
 refine (impl_all.calls k A0 c0 l0 _ _ [(70,#[.pointer (some ⟨g9,0,none⟩)]),(72,#[.pointer (some ⟨g9,0,none⟩),.pointer (some ⟨ga,0,none⟩)])] (impl_sendPacket.Fs k q a2 a1) y yc _ (Kd.C_below HR0.out HB1.out) HC0.out (impl_sendPacket.row _ (show 2≤1000 by decide) (heap_alloc_new _ _)) rfl ?_ H2.out).mono ?_
 ·
  intro i x F hx hF
  rcases i with _|_|i
  ·
   simp only [impl_sendPacket.Fs,List.getElem?_cons_zero,Option.some.injEq] at hx hF
   subst hx hF
   exact ⟨enters_of Tryz.func70 (by kernel_rfl) rfl,fun W A c l r code hb hr hc hF=>impl_sendPacket_1.calls k A c l _ q r code W hr hc ((HT0.out.below HB1.out).below hb) ((δl (blk_below (δo B9.out _) hb) 0).trans rfl) hF⟩
  ·
   simp only [impl_sendPacket.Fs,List.getElem?_cons_succ,List.getElem?_cons_zero,Option.some.injEq] at hx hF
   subst hx hF
   exact ⟨enters_of Tryz.func72 (by kernel_rfl) rfl,fun W A c l r code hb hr hc hF=>impl_sendPacket_2.calls k A c l _ _ q a2 a1 r code W hr hc ((δl (blk_below (δo B9.out _) hb) 0).trans rfl) (blk_below (δo BA.out _) hb) hF⟩
  · simp [impl_sendPacket.Fs] at hx
 rintro e w4 ⟨v4,rfl,ho,hb⟩
 have HO:=ζa (Kd.R_lower ho HB1.out.size)
 replace B7:=ζa (blk_below (δo B7.out _) hb)
 replace BA:=ζa (blk_below (δo BA.out _) hb)
 replace HB:=ζa (δr HB1.out hb)
 clear ho hb B9 HB1
 have h:=HH.out
 clear HH
 by_cases c2:yc=0
 rotate_left
 ·
  rw [if_neg c2] at h
  simp only [Option.some.injEq,Prod.mk.injEq] at h
  obtain ⟨rfl,rfl,rfl,rfl,rfl⟩:=h
  have b2:(yc != 0)=τ:=bne_iff_ne.mpr c2
  clear c2
  have hx0:=(δl B7.out 0).trans rfl;have hx1:=(δl B7.out 1).trans rfl;have hx2:=(δl B7.out 2).trans rfl;have hf0:=δm B7.out 0;have hf1:=δm B7.out 1;have hf2:=δm B7.out 2
  go_wp2
  refine bodyPost_ret (results_list (rs:=[.tmp 6,.cell 7 36,.tmp 8]) rfl (by simp) (.tmp (.cell g7 36 #[.int .i64 0,.int .i64 0,.string (⟨#[]⟩:ByteArray)] (0,0) _ rfl (δw (cs':=#[.int .i64 0,.int .i64 0,.string (⟨#[]⟩:ByteArray)]) (δw (cs':=#[.int .i64 0,.int .i64 0,.string (⟨#[]⟩:ByteArray)]) (δw (cs':=#[.int .i64 0,.int .i64 0,.string (⟨#[]⟩:ByteArray)]) B7.out 0 (.int .i64 0) rfl) 1 (.int .i64 0) rfl) 2 (.string (⟨#[]⟩:ByteArray)) rfl) Tryz.underlying36 rfl (by kernel_rfl) (.tmp .nil)))) rfl ?_
  exact ⟨_,rfl,Kd.R_set (Kd.R_set (Kd.R_set HO.out B7.out (by decide) _ _) (δw (cs':=#[.int .i64 0,.int .i64 0,.string (⟨#[]⟩:ByteArray)]) B7.out 0 (.int .i64 0) rfl) (by decide) _ _) (δw (cs':=#[.int .i64 0,.int .i64 0,.string (⟨#[]⟩:ByteArray)]) (δw (cs':=#[.int .i64 0,.int .i64 0,.string (⟨#[]⟩:ByteArray)]) B7.out 0 (.int .i64 0) rfl) 1 (.int .i64 0) rfl) (by decide) _ _,δq (δq (δq HB.out G7.out) G7.out) G7.out⟩
 rw [if_pos c2] at h
 simp only [Option.some.injEq,Prod.mk.injEq] at h
 obtain ⟨rfl,rfl,rfl,rfl,rfl⟩:=h
 have b2:(yc != 0)=φ:=bne_eq_false_iff_eq.mpr c2
 clear c2
 go_wp2_with fail
 refine sta 5 (fun w'=>w'.cell? ⟨ga,0,none⟩=some (.int .i64 q)∧w'.cell? ⟨ga,1,none⟩=some (.int .i64 a2)∧w'.cell? ⟨ga,2,none⟩=some (.string a1)) [3] impl_sendPacket.tab8 impl_sendPacket.bits8 ⟨(δl BA.out 0).trans rfl,(δl BA.out 1).trans rfl,(δl BA.out 2).trans rfl⟩ (fun hHeld HT_ HW_ => ?_)
 replace B7:=ζa (δp B7.out)
 replace HB:=ζa (δj HB.out)
 replace HO:=ζa (ζe HO.out)
 clear BA
 generalize w4.drew=w5 at HB hHeld B7 HO ⊢
 refine pu 0 38 ?_
 refine ta 1 39 ?_
 refine pu 2 6 ?_
 have hx0:=(δl B7.out 0).trans rfl;have hx1:=(δl B7.out 1).trans rfl;have hx2:=(δl B7.out 2).trans rfl;have hf0:=δm B7.out 0;have hf1:=δm B7.out 1;have hf2:=δm B7.out 2
 refine impl_sendPacket.ls 3 (fun K hK => ?_)
 refine skip_ (w1:=?_) (by rfl) rfl ?_ ?_
 rotate_left
 ·
  go_simp
  rfl
 refine hK.out _ _ ?_
 clear hK K
 refine pu 4 8 ?_
 refine done_ (done_of HT_.out (by kernel_rfl)) ?_
 go_wp2
 refine bodyPost_ret (results_list (rs:=[.tmp 6,.cell 7 36,.tmp 8]) rfl (by simp) (.tmp (.cell g7 36 #[.int .i64 q,.int .i64 a2,.string a1] (0,0) _ rfl (δw (cs':=#[.int .i64 q,.int .i64 a2,.string a1]) (δw (cs':=#[.int .i64 q,.int .i64 a2,.string (⟨#[]⟩:ByteArray)]) (δw (cs':=#[.int .i64 q,.int .i64 0,.string (⟨#[]⟩:ByteArray)]) B7.out 0 (.int .i64 q) rfl) 1 (.int .i64 a2) rfl) 2 (.string a1) rfl) Tryz.underlying36 rfl (by kernel_rfl) (.tmp .nil)))) rfl ?_
 exact ⟨_,rfl,Kd.R_set (Kd.R_set (Kd.R_set HO.out B7.out (by decide) _ _) (δw (cs':=#[.int .i64 q,.int .i64 0,.string (⟨#[]⟩:ByteArray)]) B7.out 0 (.int .i64 q) rfl) (by decide) _ _) (δw (cs':=#[.int .i64 q,.int .i64 a2,.string (⟨#[]⟩:ByteArray)]) (δw (cs':=#[.int .i64 q,.int .i64 0,.string (⟨#[]⟩:ByteArray)]) B7.out 0 (.int .i64 q) rfl) 1 (.int .i64 a2) rfl) (by decide) _ _,δq (δq (δq HB.out G7.out) G7.out) G7.out⟩


open Go.Proofs.YtggemblkhckbpaaGreatDoorW.PrintWords renaming gate_dst → δx, below_step → δr, below_size → δs, gate_callee → δv, blk_cell → δl, blk_frozen → δm, blk_put → δw, below_set → δq
open Go.Proofs.YtggemblkhckbpaaGreatDoorW.PrintWords.Kd renaming R_reads' → ζg, R_below → ζh, R_far → ζi
set_option maxHeartbeats 8000000
set_option maxRecDepth 100000

/-! ### impl_SendPacket: function 13 -/
def impl_SendPacket.f (k:Nat) (l0:List (S61)) (a1:ByteArray) (a2:Int):Option ((List (S61)) × Int × Int × ByteArray × Int):=(impl_storeCode.f k l0 (([a1]:List ByteArray))).bind fun t191=>(if t191=0 then ((impl_PacketOK.f 1 a2 a1).bind fun t192=>(if t192=τ then ((impl_sendPacket.f k l0 a1 a2).bind fun bt193=>(some (bt193.1,bt193.2.1,bt193.2.2.1,bt193.2.2.2.1,bt193.2.2.2.2))) else (some (([]:List (S61)),0,0,(⟨#[]⟩:ByteArray),4)))) else (some (([]:List (S61)),0,0,(⟨#[]⟩:ByteArray),t191)))
theorem impl_SendPacket.calls (k:Nat) (A0:Option Addr) (c0:Nat) (l0:List (S61)) (a1:ByteArray) (a2:Int) (r1:List (S61)) (r2:Int) (r3:Int) (r4:ByteArray) (r5:Int) (w:World) (hr0:Kd.C k61 w A0 l0.length l0) (hc0:l0.length≤c0) (hT0:TabsOK w) (h:impl_SendPacket.f k l0 a1 a2=some (r1,r2,r3,r4,r5)) :
  Calls Tryz.prog 13 #[.slice A0 l0.length c0,.string a1,.int .i64 a2] w fun e w' => ∃ v0_:Value,e = .returned (.tuple #[v0_,.agg #[.int .i64 r2,.int .i64 r3,.string r4],.int .i64 r5])∧Kd.R k61 61 w' w.heap.size (fun _=>True) v0_ r1∧Below w.heap.size w w':=by
 have HT0:=ζa hT0
 clear hT0
 have hu36:=Tryz.underlying36
 have HR0:=ζa hr0
 have HC0:=ζa hc0
 clear hr0 hc0
 have HB:=ζa (Below.refl w.heap.size w)
 have H:((impl_storeCode.f k l0 (([a1]:List ByteArray))).bind fun t191=>(if t191=0 then ((impl_PacketOK.f 1 a2 a1).bind fun t192=>(if t192=τ then ((impl_sendPacket.f k l0 a1 a2).bind fun bt193=>(some (bt193.1,bt193.2.1,bt193.2.2.1,bt193.2.2.2.1,bt193.2.2.2.2))) else (some (([]:List (S61)),0,0,(⟨#[]⟩:ByteArray),4)))) else (some (([]:List (S61)),0,0,(⟨#[]⟩:ByteArray),t191))))=some (r1,r2,r3,r4,r5):=h
 clear h
 obtain ⟨y188,hy188⟩ : ∃ y_:List ByteArray,y_=(([a1]:List ByteArray)):=⟨_,rfl⟩
 replace H:((impl_storeCode.f k l0 y188).bind fun t191=>(if t191=0 then ((impl_PacketOK.f 1 a2 a1).bind fun t192=>(if t192=τ then ((impl_sendPacket.f k l0 a1 a2).bind fun bt193=>(some (bt193.1,bt193.2.1,bt193.2.2.1,bt193.2.2.2.1,bt193.2.2.2.2))) else (some (([]:List (S61)),0,0,(⟨#[]⟩:ByteArray),4)))) else (some (([]:List (S61)),0,0,(⟨#[]⟩:ByteArray),t191))))=some (r1,r2,r3,r4,r5):=by (rw [hy188];with_reducible exact H)
 have Ny188:=ζa hy188
 clear hy188
 obtain ⟨t191,A4,H⟩:=bsm H
 by_cases c5:t191=0
 ·
  rw [if_pos c5] at H
  have c5b0:=beq_iff_eq.mpr c5
  have c5b1:=bne_eq_false_iff_eq.mpr c5
  clear c5
  obtain ⟨t192,A6,H⟩:=bsm H
  by_cases c7:t192=τ
  ·
   subst c7
   rw [ifT] at H
   obtain ⟨⟨t193,t196,t197,t198,t199⟩,A8,H⟩:=bsm H
   dsimp only at H
   simp only [Option.some.injEq,Prod.mk.injEq] at H
   obtain ⟨rfl,rfl,rfl,rfl,rfl⟩:=H
   go_enter Tryz.func13,Tryz.ntmps13
   go_wp2_with (first|((with_reducible refine δx (N:=7) rfl ?_);refine bev 7 #[.int .i64 0,.int .i64 0,.string (⟨#[]⟩:ByteArray)] 36 ?_;intro gb187 hg w9 hbox hb;have BK187:=ζa (hbox);have GW187:=ζa (gbw hg (by exact HB.out));have GE187:=ζa (gbw hg (by exact HB.out));replace HB:=ζa (δr (by exact HB.out) hb);clear hb hbox hg)|((with_reducible refine δx (N:=12) rfl ?_);refine Kd.R_lit Kd.string _ 9 ?hg (N:=12) ?hd (xs:=([a1]:List ByteArray)) (inner:=[.string a1]) (ok:=fun _=>True) (okp:=fun _=>True) ?hr ?hp (fun _ hk=>hk) trivial (Below.refl _ _) (Nat.le_refl _) (by simp) ?_;(case hd=>rfl);(case hg=>rfl);(case hr=>(go_simp;done));(case hp=>exact (Reps.one (show Kd.M Kd.string _ _ _ a1 [.string a1] from rfl) (Reps.none _ _)));intro v189 w10 ho11 hb hg_ hnew_;clear hg_ hnew_;(rw [← Ny188.out] at ho11);have HO190:=ζa (Kd.R_lower ho11 (δs (by exact HB.out)));replace BK187:=ζa (blk_below (g:=gb187) (o:=.cells #[.int .i64 0,.int .i64 0,.string (⟨#[]⟩:ByteArray)] 36 (0,0)) (by exact BK187.out) hb);replace HB:=ζa (δr (by exact HB.out) hb);clear hb ho11;obtain ⟨Ao12,co12,eo12⟩:=Kd.R_slice HO190.out;subst eo12)|((with_reducible refine δv (f:=33) rfl ?_);refine gl 13 Tryz.func33 #[.slice A0 l0.length c0,.slice Ao12 y188.length co12] ?_;(with_reducible refine (impl_storeCode.calls k _ _ l0 _ _ y188 t191 _ ?side1 ?side2 ?side3 ?side4 A4.out).mono ?_);(case side1=>repeat (exact (Kd.C_below HR0.out HB.out)));(case side2=>exact HC0.out);(case side3=>repeat (exact (ζg HO190.out).2.2));(case side4=>exact (ζg HO190.out).2.1);rintro e w13 ⟨rfl,hb⟩;refine ⟨_,rfl,?_⟩;replace HO190:=ζa (ζh (by exact HO190.out) hb);replace BK187:=ζa (blk_below (g:=gb187) (o:=.cells #[.int .i64 0,.int .i64 0,.string (⟨#[]⟩:ByteArray)] 36 (0,0)) (by exact BK187.out) hb);replace HB:=ζa (δr (by exact HB.out) hb);(try clear hb);(try clear hb2);(try clear hk);(try clear hi))|((with_reducible refine δv (f:=19) rfl ?_);refine gl 21 Tryz.func19 #[.agg #[.int .i64 1,.int .i64 a2,.string a1]] ?_;(with_reducible refine (impl_PacketOK.calls 1 a2 a1 τ _ A6.out).mono ?_);rintro e w14 ⟨rfl,hb⟩;refine ⟨_,rfl,?_⟩;replace HO190:=ζa (ζh (by exact HO190.out) hb);replace BK187:=ζa (blk_below (g:=gb187) (o:=.cells #[.int .i64 0,.int .i64 0,.string (⟨#[]⟩:ByteArray)] 36 (0,0)) (by exact BK187.out) hb);replace HB:=ζa (δr (by exact HB.out) hb);(try clear hb);(try clear hb2);(try clear hk);(try clear hi))|((with_reducible refine δv (f:=34) rfl ?_);refine gl 27 Tryz.func34 #[.slice A0 l0.length c0,.string a1,.int .i64 a2] ?_;(with_reducible refine (impl_sendPacket.calls k _ _ l0 a1 a2 t193 t196 t197 t198 t199 _ ?side1 ?side2 (HT0.out.below (by exact HB.out)) A8.out).mono ?_);(case side1=>repeat (exact (Kd.C_below HR0.out HB.out)));(case side2=>exact HC0.out);rintro e w15 ⟨v194,rfl,ho0,hb⟩;refine ⟨_,rfl,?_⟩;replace HO190:=ζa (ζh (by exact HO190.out) hb);have HO195:=ζa (Kd.R_lower ho0 (δs (by exact HB.out)));replace BK187:=ζa (blk_below (g:=gb187) (o:=.cells #[.int .i64 0,.int .i64 0,.string (⟨#[]⟩:ByteArray)] 36 (0,0)) (by exact BK187.out) hb);replace HB:=ζa (δr (by exact HB.out) hb);(try clear hb);(try clear hb2);(try clear hk);(try clear hi);(try clear ho0);have hcz16_0:w15.cell? ⟨gb187,0,none⟩=some (.int .i64 0):=(δl BK187.out 0).trans rfl;have hcz16_1:w15.cell? ⟨gb187,1,none⟩=some (.int .i64 0):=(δl BK187.out 1).trans rfl;have hcz16_2:w15.cell? ⟨gb187,2,none⟩=some (.string (⟨#[]⟩:ByteArray)):=(δl BK187.out 2).trans rfl;have hfz16_0:=δm BK187.out 0;have hfz16_1:=δm BK187.out 1;have hfz16_2:=δm BK187.out 2))
   refine bodyPost_ret (results_list (rs:=[.tmp 6,.cell 7 36,.tmp 8]) rfl (by simp) (.tmp (.cell gb187 36 #[.int .i64 t196,.int .i64 t197,.string t198] (0,0) _ rfl (by refine δw (cs:=#[.int .i64 t196,.int .i64 t197,.string (⟨#[]⟩:ByteArray)]) ?_ 2 _ rfl;refine δw (cs:=#[.int .i64 t196,.int .i64 0,.string (⟨#[]⟩:ByteArray)]) ?_ 1 _ rfl;refine δw (cs:=#[.int .i64 0,.int .i64 0,.string (⟨#[]⟩:ByteArray)]) ?_ 0 _ rfl;exact BK187.out) Tryz.underlying36 rfl (by kernel_rfl) (.tmp .nil)))) rfl ?_
   exact ⟨_,by rfl,by exact Kd.R_mono (ζi (p:=⟨gb187,2,none⟩) (ζi (p:=⟨gb187,1,none⟩) (ζi (p:=⟨gb187,0,none⟩) (Kd.R_types HO195.out BK187.out (by decide)) (fun _ hk=>hk.2) (.int .i64 t196)) (fun _ hk=>hk.2) (.int .i64 t197)) (fun _ hk=>hk.2) (.string t198)) (fun _ hk=>trivial),by repeat ((with_reducible first|exact HB.out|refine δq ?_ GE187.out))⟩
  ·
   replace c7:=Bool.eq_false_iff.mpr c7
   subst c7
   rw [ifF] at H
   simp only [Option.some.injEq,Prod.mk.injEq] at H
   obtain ⟨rfl,rfl,rfl,rfl,rfl⟩:=H
   go_enter Tryz.func13,Tryz.ntmps13
   go_wp2_with (first|((with_reducible refine δx (N:=7) rfl ?_);refine bev 7 #[.int .i64 0,.int .i64 0,.string (⟨#[]⟩:ByteArray)] 36 ?_;intro gb187 hg w17 hbox hb;have BK187:=ζa (hbox);have GW187:=ζa (gbw hg (by exact HB.out));have GE187:=ζa (gbw hg (by exact HB.out));replace HB:=ζa (δr (by exact HB.out) hb);clear hb hbox hg)|((with_reducible refine δx (N:=12) rfl ?_);refine Kd.R_lit Kd.string _ 9 ?hg (N:=12) ?hd (xs:=([a1]:List ByteArray)) (inner:=[.string a1]) (ok:=fun _=>True) (okp:=fun _=>True) ?hr ?hp (fun _ hk=>hk) trivial (Below.refl _ _) (Nat.le_refl _) (by simp) ?_;(case hd=>rfl);(case hg=>rfl);(case hr=>(go_simp;done));(case hp=>exact (Reps.one (show Kd.M Kd.string _ _ _ a1 [.string a1] from rfl) (Reps.none _ _)));intro v189 w18 ho19 hb hg_ hnew_;clear hg_ hnew_;(rw [← Ny188.out] at ho19);have HO190:=ζa (Kd.R_lower ho19 (δs (by exact HB.out)));replace BK187:=ζa (blk_below (g:=gb187) (o:=.cells #[.int .i64 0,.int .i64 0,.string (⟨#[]⟩:ByteArray)] 36 (0,0)) (by exact BK187.out) hb);replace HB:=ζa (δr (by exact HB.out) hb);clear hb ho19;obtain ⟨Ao20,co20,eo20⟩:=Kd.R_slice HO190.out;subst eo20)|((with_reducible refine δv (f:=33) rfl ?_);refine gl 13 Tryz.func33 #[.slice A0 l0.length c0,.slice Ao20 y188.length co20] ?_;(with_reducible refine (impl_storeCode.calls k _ _ l0 _ _ y188 t191 _ ?side1 ?side2 ?side3 ?side4 A4.out).mono ?_);(case side1=>repeat (exact (Kd.C_below HR0.out HB.out)));(case side2=>exact HC0.out);(case side3=>repeat (exact (ζg HO190.out).2.2));(case side4=>exact (ζg HO190.out).2.1);rintro e w21 ⟨rfl,hb⟩;refine ⟨_,rfl,?_⟩;replace HO190:=ζa (ζh (by exact HO190.out) hb);replace BK187:=ζa (blk_below (g:=gb187) (o:=.cells #[.int .i64 0,.int .i64 0,.string (⟨#[]⟩:ByteArray)] 36 (0,0)) (by exact BK187.out) hb);replace HB:=ζa (δr (by exact HB.out) hb);(try clear hb);(try clear hb2);(try clear hk);(try clear hi))|((with_reducible refine δv (f:=19) rfl ?_);refine gl 21 Tryz.func19 #[.agg #[.int .i64 1,.int .i64 a2,.string a1]] ?_;(with_reducible refine (impl_PacketOK.calls 1 a2 a1 φ _ A6.out).mono ?_);rintro e w22 ⟨rfl,hb⟩;refine ⟨_,rfl,?_⟩;replace HO190:=ζa (ζh (by exact HO190.out) hb);replace BK187:=ζa (blk_below (g:=gb187) (o:=.cells #[.int .i64 0,.int .i64 0,.string (⟨#[]⟩:ByteArray)] 36 (0,0)) (by exact BK187.out) hb);replace HB:=ζa (δr (by exact HB.out) hb);(try clear hb);(try clear hb2);(try clear hk);(try clear hi);have hcz23_0:w22.cell? ⟨gb187,0,none⟩=some (.int .i64 0):=(δl BK187.out 0).trans rfl;have hcz23_1:w22.cell? ⟨gb187,1,none⟩=some (.int .i64 0):=(δl BK187.out 1).trans rfl;have hcz23_2:w22.cell? ⟨gb187,2,none⟩=some (.string (⟨#[]⟩:ByteArray)):=(δl BK187.out 2).trans rfl;have hfz23_0:=δm BK187.out 0;have hfz23_1:=δm BK187.out 1;have hfz23_2:=δm BK187.out 2))
   refine bodyPost_ret (results_list (rs:=[.tmp 6,.cell 7 36,.tmp 8]) rfl (by simp) (.tmp (.cell gb187 36 #[.int .i64 0,.int .i64 0,.string (⟨#[]⟩:ByteArray)] (0,0) _ rfl (by refine δw (cs:=#[.int .i64 0,.int .i64 0,.string (⟨#[]⟩:ByteArray)]) ?_ 2 _ rfl;refine δw (cs:=#[.int .i64 0,.int .i64 0,.string (⟨#[]⟩:ByteArray)]) ?_ 1 _ rfl;refine δw (cs:=#[.int .i64 0,.int .i64 0,.string (⟨#[]⟩:ByteArray)]) ?_ 0 _ rfl;exact BK187.out) Tryz.underlying36 rfl (by kernel_rfl) (.tmp .nil)))) rfl ?_
   exact ⟨_,by rfl,by exact Kd.R_nil _ _ _ _ _,by repeat ((with_reducible first|exact HB.out|refine δq ?_ GE187.out))⟩
 ·
  rw [if_neg c5] at H
  have c5b0:=beq_eq_false_iff_ne.mpr c5
  have c5b1:=bne_iff_ne.mpr c5
  simp only [Option.some.injEq,Prod.mk.injEq] at H
  obtain ⟨rfl,rfl,rfl,rfl,rfl⟩:=H
  go_enter Tryz.func13,Tryz.ntmps13
  go_wp2_with (first|((with_reducible refine δx (N:=7) rfl ?_);refine bev 7 #[.int .i64 0,.int .i64 0,.string (⟨#[]⟩:ByteArray)] 36 ?_;intro gb187 hg w24 hbox hb;have BK187:=ζa (hbox);have GW187:=ζa (gbw hg (by exact HB.out));have GE187:=ζa (gbw hg (by exact HB.out));replace HB:=ζa (δr (by exact HB.out) hb);clear hb hbox hg)|((with_reducible refine δx (N:=12) rfl ?_);refine Kd.R_lit Kd.string _ 9 ?hg (N:=12) ?hd (xs:=([a1]:List ByteArray)) (inner:=[.string a1]) (ok:=fun _=>True) (okp:=fun _=>True) ?hr ?hp (fun _ hk=>hk) trivial (Below.refl _ _) (Nat.le_refl _) (by simp) ?_;(case hd=>rfl);(case hg=>rfl);(case hr=>(go_simp;done));(case hp=>exact (Reps.one (show Kd.M Kd.string _ _ _ a1 [.string a1] from rfl) (Reps.none _ _)));intro v189 w25 ho26 hb hg_ hnew_;clear hg_ hnew_;(rw [← Ny188.out] at ho26);have HO190:=ζa (Kd.R_lower ho26 (δs (by exact HB.out)));replace BK187:=ζa (blk_below (g:=gb187) (o:=.cells #[.int .i64 0,.int .i64 0,.string (⟨#[]⟩:ByteArray)] 36 (0,0)) (by exact BK187.out) hb);replace HB:=ζa (δr (by exact HB.out) hb);clear hb ho26;obtain ⟨Ao27,co27,eo27⟩:=Kd.R_slice HO190.out;subst eo27)|((with_reducible refine δv (f:=33) rfl ?_);refine gl 13 Tryz.func33 #[.slice A0 l0.length c0,.slice Ao27 y188.length co27] ?_;(with_reducible refine (impl_storeCode.calls k _ _ l0 _ _ y188 t191 _ ?side1 ?side2 ?side3 ?side4 A4.out).mono ?_);(case side1=>repeat (exact (Kd.C_below HR0.out HB.out)));(case side2=>exact HC0.out);(case side3=>repeat (exact (ζg HO190.out).2.2));(case side4=>exact (ζg HO190.out).2.1);rintro e w28 ⟨rfl,hb⟩;refine ⟨_,rfl,?_⟩;replace HO190:=ζa (ζh (by exact HO190.out) hb);replace BK187:=ζa (blk_below (g:=gb187) (o:=.cells #[.int .i64 0,.int .i64 0,.string (⟨#[]⟩:ByteArray)] 36 (0,0)) (by exact BK187.out) hb);replace HB:=ζa (δr (by exact HB.out) hb);(try clear hb);(try clear hb2);(try clear hk);(try clear hi);have hcz29_0:w28.cell? ⟨gb187,0,none⟩=some (.int .i64 0):=(δl BK187.out 0).trans rfl;have hcz29_1:w28.cell? ⟨gb187,1,none⟩=some (.int .i64 0):=(δl BK187.out 1).trans rfl;have hcz29_2:w28.cell? ⟨gb187,2,none⟩=some (.string (⟨#[]⟩:ByteArray)):=(δl BK187.out 2).trans rfl;have hfz29_0:=δm BK187.out 0;have hfz29_1:=δm BK187.out 1;have hfz29_2:=δm BK187.out 2))
  refine bodyPost_ret (results_list (rs:=[.tmp 6,.cell 7 36,.tmp 8]) rfl (by simp) (.tmp (.cell gb187 36 #[.int .i64 0,.int .i64 0,.string (⟨#[]⟩:ByteArray)] (0,0) _ rfl (by refine δw (cs:=#[.int .i64 0,.int .i64 0,.string (⟨#[]⟩:ByteArray)]) ?_ 2 _ rfl;refine δw (cs:=#[.int .i64 0,.int .i64 0,.string (⟨#[]⟩:ByteArray)]) ?_ 1 _ rfl;refine δw (cs:=#[.int .i64 0,.int .i64 0,.string (⟨#[]⟩:ByteArray)]) ?_ 0 _ rfl;exact BK187.out) Tryz.underlying36 rfl (by kernel_rfl) (.tmp .nil)))) rfl ?_
  exact ⟨_,by rfl,by exact Kd.R_nil _ _ _ _ _,by repeat ((with_reducible first|exact HB.out|refine δq ?_ GE187.out))⟩


set_option maxHeartbeats 8000000
set_option maxRecDepth 100000

/-! ### spec_l01In: function 36 -/
def spec_l01In.f (a0:Int) (a1:Int) (a2:Int):Option (Bool):=if a0 ≥ a1 then (some (decide (a0≤a2))) else (some φ)
theorem spec_l01In.calls (a0:Int) (a1:Int) (a2:Int) (r:Bool) (w:World) (h:spec_l01In.f a0 a1 a2=some r) :
  Calls Tryz.prog 36 #[.int .i64 a0,.int .i64 a1,.int .i64 a2] w fun e w'=>e = .returned (.bool r)∧Drawn0 w w':=by
 have H:(if a0 ≥ a1 then (some (decide (a0≤a2))) else (some φ))=some r:=h
 clear h
 by_cases c4:a0 ≥ a1
 ·
  rw [if_pos c4] at H
  have c4b0:decide (a1≤a0)=τ:=decide_eq_true c4
  clear c4
  obtain rfl:=Option.some.inj H
  go_enter Tryz.func36,Tryz.ntmps36
  go_wp2
  go_ret
  exact ⟨by rfl,by repeat (exact Drawn0.refl _)⟩
 ·
  rw [if_neg c4] at H
  have c4b0:decide (a1≤a0)=φ:=decide_eq_false c4
  clear c4
  obtain rfl:=Option.some.inj H
  go_enter Tryz.func36,Tryz.ntmps36
  go_wp2
  go_ret
  exact ⟨by rfl,by repeat (exact Drawn0.refl _)⟩


open Go.Proofs.YtggemblkhckbpaaGreatDoorW.PrintWords renaming gate_callee → δv
set_option maxHeartbeats 8000000
set_option maxRecDepth 100000

/-! ### spec_l03Key: function 114 -/
def spec_l03Key.f (a0:ByteArray):Option (Bool):=(spec_l01In.f (a0.size:Int) 1 60).bind fun t200=>(some t200)
theorem spec_l03Key.calls (a0:ByteArray) (r:Bool) (w:World) (h:spec_l03Key.f a0=some r) :
  Calls Tryz.prog 114 #[.string a0] w fun e w'=>e = .returned (.bool r)∧Drawn0 w w':=by
 have H:((spec_l01In.f (a0.size:Int) 1 60).bind fun t200=>(some t200))=some r:=h
 clear h
 obtain ⟨t200,A2,H⟩:=bsm H
 obtain rfl:=Option.some.inj H
 go_enter Tryz.func114,Tryz.ntmps114
 go_wp2_with (((with_reducible refine δv (f:=36) rfl ?_);refine gl 5 Tryz.func36 #[.int .i64 (a0.size:Int),.int .i64 1,.int .i64 60] ?_;(with_reducible refine (spec_l01In.calls (a0.size:Int) 1 60 t200 _ A2.out).mono ?_);rintro e w' ⟨rfl,⟨nd,rfl⟩⟩;refine ⟨_,rfl,?_⟩))
 go_ret
 exact ⟨by rfl,by repeat (first|exact Drawn0.refl _|apply Drawn0.step)⟩


open Go.Proofs.YtggemblkhckbpaaGreatDoorW.PrintWords renaming gate_dst → δx, below_step → δr, blk_cell → δl, blk_frozen → δm, gate_callee → δv, pw_below_drewN → δi
set_option maxHeartbeats 8000000
set_option maxRecDepth 100000

/-! ### spec_l03Pair: function 75 -/
def spec_l03Pair.f (a0_0:ByteArray) (a0_1:ByteArray):Option (Bool):=(spec_l03Key.f a0_0).bind fun t202=>(if t202=τ then (some (decide ((a0_1.size:Int)≤1000))) else (some φ))
theorem spec_l03Pair.calls (a0_0:ByteArray) (a0_1:ByteArray) (r:Bool) (w:World) (h:spec_l03Pair.f a0_0 a0_1=some r) :
  Calls Tryz.prog 75 #[.agg #[.string a0_0,.string a0_1]] w fun e w'=>e = .returned (.bool r)∧Below w.heap.size w w':=by
 have hu61:=Tryz.underlying61
 have HB:=ζa (Below.refl w.heap.size w)
 have H:((spec_l03Key.f a0_0).bind fun t202=>(if t202=τ then (some (decide ((a0_1.size:Int)≤1000))) else (some φ)))=some r:=h
 clear h
 obtain ⟨t202,A2,H⟩:=bsm H
 by_cases c3:t202=τ
 ·
  subst c3
  rw [ifT] at H
  obtain rfl:=Option.some.inj H
  go_enter Tryz.func75,Tryz.ntmps75
  go_wp2_with (first|((with_reducible refine δx (N:=1) rfl ?_);(try (refine gate_guard (by rfl) ?_;dsimp only));refine bev 1 #[.string a0_0,.string a0_1] 61 ?_;intro gb201 hg w4 hbox hb;have BK201:=ζa (hbox);have GW201:=ζa (gbw hg (by exact HB.out));have GE201:=ζa (gbw hg (by exact HB.out));replace HB:=ζa (δr (by exact HB.out) hb);clear hb hbox hg;have hcz5_0:w4.cell? ⟨gb201,0,none⟩=some (.string a0_0):=(δl BK201.out 0).trans rfl;have hcz5_1:w4.cell? ⟨gb201,1,none⟩=some (.string a0_1):=(δl BK201.out 1).trans rfl;have hfz5_0:=δm BK201.out 0;have hfz5_1:=δm BK201.out 1)|((with_reducible refine δv (f:=114) rfl ?_);refine gl 5 Tryz.func114 #[.string a0_0] ?_;(with_reducible refine (spec_l03Key.calls a0_0 τ _ A2.out).mono ?_);rintro e w' ⟨rfl,⟨nd,rfl⟩⟩;refine ⟨_,rfl,?_⟩))
  go_ret
  exact ⟨by rfl,by repeat ((with_reducible first|exact HB.out|apply δi))⟩
 ·
  replace c3:=Bool.eq_false_iff.mpr c3
  subst c3
  rw [ifF] at H
  obtain rfl:=Option.some.inj H
  go_enter Tryz.func75,Tryz.ntmps75
  go_wp2_with (first|((with_reducible refine δx (N:=1) rfl ?_);(try (refine gate_guard (by rfl) ?_;dsimp only));refine bev 1 #[.string a0_0,.string a0_1] 61 ?_;intro gb201 hg w6 hbox hb;have BK201:=ζa (hbox);have GW201:=ζa (gbw hg (by exact HB.out));have GE201:=ζa (gbw hg (by exact HB.out));replace HB:=ζa (δr (by exact HB.out) hb);clear hb hbox hg;have hcz7_0:w6.cell? ⟨gb201,0,none⟩=some (.string a0_0):=(δl BK201.out 0).trans rfl;have hcz7_1:w6.cell? ⟨gb201,1,none⟩=some (.string a0_1):=(δl BK201.out 1).trans rfl;have hfz7_0:=δm BK201.out 0;have hfz7_1:=δm BK201.out 1)|((with_reducible refine δv (f:=114) rfl ?_);refine gl 5 Tryz.func114 #[.string a0_0] ?_;(with_reducible refine (spec_l03Key.calls a0_0 φ _ A2.out).mono ?_);rintro e w' ⟨rfl,⟨nd,rfl⟩⟩;refine ⟨_,rfl,?_⟩))
  go_ret
  exact ⟨by rfl,by repeat ((with_reducible first|exact HB.out|apply δi))⟩


open Go.Proofs.YtggemblkhckbpaaGreatDoorW.PrintWords renaming below_drew1 → δj, below_step → δr
open Go.Proofs.YtggemblkhckbpaaGreatDoorW.PrintLast renaming pure_ → ζk, any_of → ζj
open List renaming setIfInBounds_toArray → δa, set_cons_zero → δb, set_cons_succ → δc
set_option maxHeartbeats 8000000
set_option maxRecDepth 100000

/-! ### spec_StoreOK: function 35 -/
def spec_StoreOK.l0:Nat→List (S61)→Int→Option (Bool)
 | 0,_,_=>none
 | k+1,x0,x3=>if x3<(x0.length:Int) then (if 0≤x3 then ((spec_l03Pair.f ((rd_T61 x0 x3).f0) ((rd_T61 x0 x3).f1)).bind fun t204=>(if t204=τ then (if x3 > 0 then (if 0≤(ζm (x3 - 1)) then (if (ζm (x3 - 1))<(x0.length:Int) then (if ((Op.bytesLess (((rd_T61 x0 (ζm (x3 - 1))).f0).toList) (((rd_T61 x0 x3).f0).toList))=τ) then (spec_StoreOK.l0 k x0 (ζm (x3+1))) else (some φ)) else (none)) else (none)) else (spec_StoreOK.l0 k x0 (ζm (x3+1)))) else (some φ))) else (none)) else (some τ)
def spec_StoreOK.f (k:Nat) (l0:List (S61)):Option (Bool):=if (l0.length:Int) > 4096 then (some φ) else (if (l0.length:Int) > 400 then (some φ) else (spec_StoreOK.l0 k l0 0))
def spec_StoreOK.T8:Bool × List (List Nat × List Nat):=(τ,[([],[]),([],[]),([0,1],[0,1]),([2],[2]),([3],[3]),([4],[4]),([5,4],[5]),([6],[6]),([7,6],[6,7]),([8,6,6],[6,8]),([9],[9]),([9],[9]),([11,9],[9,11]),([10,12,9],[9,10,12]),([13,9],[9,13]),([14,9],[9,14]),([9],[9]),([9],[9]),([16,17,9],[9,16,17]),([18,9],[9,18]),([19,9],[9,19]),([15,20,9],[9,15,20]),([9,21,6],[6,9,21]),([6,22],[6,22])])
def spec_StoreOK.B8:List Nat:=[0,0,3,7,15,31,63,127,255,511,1023,1023,3071,8191,16383,32767,1023,1023,197631,459775,984063,2097151,4194303,8388607]
theorem spec_StoreOK.tab8:rtab .any (opsOf Tryz.f35 8)=spec_StoreOK.T8:=by kernel_rfl
theorem spec_StoreOK.bits8:waitsOk spec_StoreOK.T8.2 spec_StoreOK.B8=τ:=by kernel_rfl
theorem spec_StoreOK.calls (k:Nat) (A0:Option Addr) (c0:Nat) (l0:List (S61)) (r:Bool) (w:World) (hr0:Kd.C k61 w A0 l0.length l0) (hc0:l0.length≤c0) (h:spec_StoreOK.f k l0=some r) :
  Calls Tryz.prog 35 #[.slice A0 l0.length c0] w fun e w'=>e = .returned (.bool r)∧Below w.heap.size w w':=by
 have hu61:=Tryz.underlying61
 have HR0:=ζa hr0
 have HC0:=ζa hc0
 clear hr0 hc0
 have HB:=ζa (Below.refl w.heap.size w)
 have H:(if (l0.length:Int) > 4096 then (some φ) else (if (l0.length:Int) > 400 then (some φ) else (spec_StoreOK.l0 k l0 0)))=some r:=h
 clear h
 by_cases c2:(l0.length:Int) > 4096
 ·
  rw [if_pos c2] at H
  have c2b0:decide (4096<(l0.length:Int))=τ:=decide_eq_true c2
  have c2b1:decide (4096<l0.length)=τ:=decide_eq_true (by omega)
  clear c2
  obtain rfl:=Option.some.inj H
  go_enter Tryz.func35,Tryz.ntmps35
  go_wp2
  go_ret
  exact ⟨by rfl,by repeat ((with_reducible exact HB.out))⟩
 ·
  rw [if_neg c2] at H
  have c2b0:decide (4096<(l0.length:Int))=φ:=decide_eq_false c2
  have c2b1:decide (4096<l0.length)=φ:=decide_eq_false (by omega)
  clear c2
  by_cases c3:(l0.length:Int) > 400
  ·
   rw [if_pos c3] at H
   have c3b0:decide (400<(l0.length:Int))=τ:=decide_eq_true c3
   have c3b1:decide (400<l0.length)=τ:=decide_eq_true (by omega)
   clear c3
   obtain rfl:=Option.some.inj H
   go_enter Tryz.func35,Tryz.ntmps35
   go_wp2
   go_ret
   exact ⟨by rfl,by repeat ((with_reducible exact HB.out))⟩
  ·
   rw [if_neg c3] at H
   have c3b0:decide (400<(l0.length:Int))=φ:=decide_eq_false c3
   have c3b1:decide (400<l0.length)=φ:=decide_eq_false (by omega)
   clear c3
   have H':=ζa H
   clear H
   go_enter Tryz.func35,Tryz.ntmps35
   go_wp2
   go_loopg [3] k (fun kq v3 w' => ∃ (x3_1:Int),v3 = .int .i64 x3_1∧Aside0 (spec_StoreOK.l0 kq l0 x3_1=some r)∧Aside0 (kq≤k)∧Aside0 (Below w.heap.size w w'))
   case atStart=>exact ⟨(0),(by rfl),H',⟨Nat.le_refl _⟩,⟨by repeat ((with_reducible exact HB.out))⟩⟩
   case round =>
    clear H'
    try clear c2
    try clear c2b0
    try clear c2b1
    try clear p2
    try clear c3
    try clear c3b0
    try clear c3b1
    obtain ⟨x3_1,rfl,HA,HK1,HB⟩:=hrel
    cases gk with
    | zero=>exact absurd HA.out (by simp [spec_StoreOK.l0])
    | succ k1 =>
     have H:=HA.out
     clear HA
     simp only [spec_StoreOK.l0] at H
     by_cases c4:x3_1<(l0.length:Int)
     ·
      rw [if_pos c4] at H
      have c4b0:=decide_eq_true c4
      clear c4
      by_cases c5:0≤x3_1
      ·
       rw [if_pos c5] at H
       have c5b0:=decide_eq_true c5
       clear c5
       obtain ⟨t204,A6,H⟩:=bsm H
       by_cases c7:t204=τ
       ·
        subst c7
        rw [ifT] at H
        by_cases c8:x3_1 > 0
        ·
         rw [if_pos c8] at H
         have c8b0:decide (0<x3_1)=τ:=decide_eq_true c8
         clear c8
         obtain ⟨ji9,hji9⟩ : ∃ j_:Int,(ζm (x3_1 - 1))=j_:=⟨_,rfl⟩
         replace H:(if 0≤(ji9) then (if (ji9)<(l0.length:Int) then (if ((Op.bytesLess (((rd_T61 l0 (ji9)).f0).toList) (((rd_T61 l0 x3_1).f0).toList))=τ) then (spec_StoreOK.l0 k1 l0 (ζm (x3_1+1))) else (some φ)) else (none)) else (none))=some r:=by (rw [hji9] at H;exact H)
         (try rw [hji9] at A6)
         have hji9w:(IntKind.i64.wrap (x3_1 - 1))=ji9:=(i64_w _).trans hji9
         by_cases c10:0≤(ji9)
         ·
          rw [if_pos c10] at H
          have c10b0:=decide_eq_true c10
          clear c10
          by_cases c11:(ji9)<(l0.length:Int)
          ·
           rw [if_pos c11] at H
           have c11b0:=decide_eq_true c11
           clear c11
           by_cases c12:((Op.bytesLess (((rd_T61 l0 (ji9)).f0).toList) (((rd_T61 l0 x3_1).f0).toList))=τ)
           ·
            rw [if_pos c12] at H
            have c12b0:(Op.bytesLess (((rd_T61 l0 (ji9)).f0).toList) (((rd_T61 l0 x3_1).f0).toList))=τ:=c12
            clear c12
            have H':=ζa H
            clear H
            try go_wp2
            replace HB:=ζa (δj HB.out)
            have p203:0≤(x3_1:Int):=of_decide_eq_true (by (with_reducible assumption))
            have q203:x3_1<(l0.length:Int):=of_decide_eq_true (by (with_reducible assumption))
            obtain ⟨ad203,e203,hx203_0,hx203_1⟩:=at_T61 HR0.out x3_1 p203 q203
            have hw203_1:=hx203_1
            have hw203_0:=hx203_0
            cases e203
            replace hx203_0:=(HB.out.cell (World.block_lt_of_cell? w _ hx203_0)).trans hx203_0
            replace hx203_1:=(HB.out.cell (World.block_lt_of_cell? w _ hx203_1)).trans hx203_1
            replace p203:=eq_true p203
            replace q203:=eq_true q203
            have p205:0≤((ji9):Int):=of_decide_eq_true (by (with_reducible assumption))
            have q205:(ji9)<(l0.length:Int):=of_decide_eq_true (by (with_reducible assumption))
            obtain ⟨ad205,e205,hx205_0,hx205_1⟩:=at_T61 HR0.out (ji9) p205 q205
            have hw205_1:=hx205_1
            have hw205_0:=hx205_0
            obtain rfl:ad203=ad205:=(by injection e205)
            replace hx205_0:=(HB.out.cell (World.block_lt_of_cell? w _ hx205_0)).trans hx205_0
            replace hx205_1:=(HB.out.cell (World.block_lt_of_cell? w _ hx205_1)).trans hx205_1
            replace p205:=eq_true p205
            replace q205:=eq_true q205
            have p206:0≤(x3_1:Int):=of_decide_eq_true (by (with_reducible assumption))
            have q206:x3_1<(l0.length:Int):=of_decide_eq_true (by (with_reducible assumption))
            obtain ⟨ad206,e206,hx206_0,hx206_1⟩:=at_T61 HR0.out x3_1 p206 q206
            have hw206_1:=hx206_1
            have hw206_0:=hx206_0
            obtain rfl:ad203=ad206:=(by injection e206)
            replace hx206_0:=(HB.out.cell (World.block_lt_of_cell? w _ hx206_0)).trans hx206_0
            replace hx206_1:=(HB.out.cell (World.block_lt_of_cell? w _ hx206_1)).trans hx206_1
            replace p206:=eq_true p206
            replace q206:=eq_true q206
            refine sta 24 (fun w'=>w'.cell? (ad203.add ((x3_1).toNat * 2))=some (.string ((rd_T61 l0 x3_1).f0))∧w'.cell? ⟨(ad203.add ((x3_1).toNat * 2)).block,(ad203.add ((x3_1).toNat * 2)).off+1,none⟩=some (.string ((rd_T61 l0 x3_1).f1))∧w'.cell? (ad203.add (((ji9)).toNat * 2))=some (.string ((rd_T61 l0 (ji9)).f0))∧w'.cell? ⟨(ad203.add (((ji9)).toNat * 2)).block,(ad203.add (((ji9)).toNat * 2)).off+1,none⟩=some (.string ((rd_T61 l0 (ji9)).f1))∧w'.cell? (ad203.add ((x3_1).toNat * 2))=some (.string ((rd_T61 l0 x3_1).f0))∧w'.cell? ⟨(ad203.add ((x3_1).toNat * 2)).block,(ad203.add ((x3_1).toNat * 2)).off+1,none⟩=some (.string ((rd_T61 l0 x3_1).f1))) [] spec_StoreOK.tab8 spec_StoreOK.bits8 ⟨((HB.out.cell (World.block_lt_of_cell? w _ hw203_0)).trans hw203_0),((HB.out.cell (World.block_lt_of_cell? w _ hw203_1)).trans hw203_1),((HB.out.cell (World.block_lt_of_cell? w _ hw205_0)).trans hw205_0),((HB.out.cell (World.block_lt_of_cell? w _ hw205_1)).trans hw205_1),((HB.out.cell (World.block_lt_of_cell? w _ hw206_0)).trans hw206_0),((HB.out.cell (World.block_lt_of_cell? w _ hw206_1)).trans hw206_1)⟩ (fun hHeld HT_ HW_ => ?_)
            generalize wr.drew=w13 at HB hx203_0 hx203_1 hx205_0 hx205_1 hx206_0 hx206_1 hHeld ⊢
            refine pu 0 16 ?_
            refine pu 1 17 ?_
            refine pu 2 18 ?_
            refine ta 3 19 ?_
            refine on 4 20 (fun K hK => ?_)
            refine gs Tryz.func75 #[.agg #[.string ((rd_T61 l0 x3_1).f0),.string ((rd_T61 l0 x3_1).f1)]] ?_
            with_reducible refine (spec_l03Pair.calls ((rd_T61 l0 x3_1).f0) ((rd_T61 l0 x3_1).f1) τ _ A6.out).mono ?_
            rintro e w14 ⟨rfl,hb⟩
            refine ⟨_,rfl,?_⟩
            replace HB:=ζa (δr (by exact HB.out) hb)
            (try clear hb)
            (try clear hb2)
            (try clear hk)
            (try clear hi)
            refine hK.out _ _ ⟨((HB.out.cell (World.block_lt_of_cell? w _ hw203_0)).trans hw203_0),((HB.out.cell (World.block_lt_of_cell? w _ hw203_1)).trans hw203_1),((HB.out.cell (World.block_lt_of_cell? w _ hw205_0)).trans hw205_0),((HB.out.cell (World.block_lt_of_cell? w _ hw205_1)).trans hw205_1),((HB.out.cell (World.block_lt_of_cell? w _ hw206_0)).trans hw206_0),((HB.out.cell (World.block_lt_of_cell? w _ hw206_1)).trans hw206_1)⟩ (fun hHeld => ?_)
            clear hK K
            refine nm 20 ?_
            refine pu 5 21 ?_
            refine pu 6 22 ?_
            refine pu 7 23 ?_
            refine pu 8 24 ?_
            refine pu 9 25 ?_
            refine pu 10 26 ?_
            refine pu 11 27 ?_
            refine pu 12 28 ?_
            refine pu 13 29 ?_
            refine pu 14 30 ?_
            refine pu 16 32 ?_
            refine pu 17 33 ?_
            refine pu 18 34 ?_
            refine pu 19 35 ?_
            refine ta 15 31 ?_
            refine ta 20 36 ?_
            refine pu 21 37 ?_
            refine pu 22 38 ?_
            refine pu 23 39 ?_
            refine done_ (done_of HT_.out (by kernel_rfl)) ?_
            try go_wp2
            go_roundg k1
            case measure=>have:=HK1.out;omega
            case rel=>exact ⟨(ζm (x3_1+1)),(by rfl),H',⟨by have:=HK1.out;omega⟩,⟨by repeat ((with_reducible exact HB.out))⟩⟩
           ·
            rw [if_neg c12] at H
            have c12b0:(Op.bytesLess (((rd_T61 l0 (ji9)).f0).toList) (((rd_T61 l0 x3_1).f0).toList))=φ:=by simpa using c12
            clear c12
            obtain rfl:=Option.some.inj H
            try go_wp2
            replace HB:=ζa (δj HB.out)
            have p203:0≤(x3_1:Int):=of_decide_eq_true (by (with_reducible assumption))
            have q203:x3_1<(l0.length:Int):=of_decide_eq_true (by (with_reducible assumption))
            obtain ⟨ad203,e203,hx203_0,hx203_1⟩:=at_T61 HR0.out x3_1 p203 q203
            have hw203_1:=hx203_1
            have hw203_0:=hx203_0
            cases e203
            replace hx203_0:=(HB.out.cell (World.block_lt_of_cell? w _ hx203_0)).trans hx203_0
            replace hx203_1:=(HB.out.cell (World.block_lt_of_cell? w _ hx203_1)).trans hx203_1
            replace p203:=eq_true p203
            replace q203:=eq_true q203
            have p205:0≤((ji9):Int):=of_decide_eq_true (by (with_reducible assumption))
            have q205:(ji9)<(l0.length:Int):=of_decide_eq_true (by (with_reducible assumption))
            obtain ⟨ad205,e205,hx205_0,hx205_1⟩:=at_T61 HR0.out (ji9) p205 q205
            have hw205_1:=hx205_1
            have hw205_0:=hx205_0
            obtain rfl:ad203=ad205:=(by injection e205)
            replace hx205_0:=(HB.out.cell (World.block_lt_of_cell? w _ hx205_0)).trans hx205_0
            replace hx205_1:=(HB.out.cell (World.block_lt_of_cell? w _ hx205_1)).trans hx205_1
            replace p205:=eq_true p205
            replace q205:=eq_true q205
            have p206:0≤(x3_1:Int):=of_decide_eq_true (by (with_reducible assumption))
            have q206:x3_1<(l0.length:Int):=of_decide_eq_true (by (with_reducible assumption))
            obtain ⟨ad206,e206,hx206_0,hx206_1⟩:=at_T61 HR0.out x3_1 p206 q206
            have hw206_1:=hx206_1
            have hw206_0:=hx206_0
            obtain rfl:ad203=ad206:=(by injection e206)
            replace hx206_0:=(HB.out.cell (World.block_lt_of_cell? w _ hx206_0)).trans hx206_0
            replace hx206_1:=(HB.out.cell (World.block_lt_of_cell? w _ hx206_1)).trans hx206_1
            replace p206:=eq_true p206
            replace q206:=eq_true q206
            refine sta 24 (fun w'=>w'.cell? (ad203.add ((x3_1).toNat * 2))=some (.string ((rd_T61 l0 x3_1).f0))∧w'.cell? ⟨(ad203.add ((x3_1).toNat * 2)).block,(ad203.add ((x3_1).toNat * 2)).off+1,none⟩=some (.string ((rd_T61 l0 x3_1).f1))∧w'.cell? (ad203.add (((ji9)).toNat * 2))=some (.string ((rd_T61 l0 (ji9)).f0))∧w'.cell? ⟨(ad203.add (((ji9)).toNat * 2)).block,(ad203.add (((ji9)).toNat * 2)).off+1,none⟩=some (.string ((rd_T61 l0 (ji9)).f1))∧w'.cell? (ad203.add ((x3_1).toNat * 2))=some (.string ((rd_T61 l0 x3_1).f0))∧w'.cell? ⟨(ad203.add ((x3_1).toNat * 2)).block,(ad203.add ((x3_1).toNat * 2)).off+1,none⟩=some (.string ((rd_T61 l0 x3_1).f1))) [] spec_StoreOK.tab8 spec_StoreOK.bits8 ⟨((HB.out.cell (World.block_lt_of_cell? w _ hw203_0)).trans hw203_0),((HB.out.cell (World.block_lt_of_cell? w _ hw203_1)).trans hw203_1),((HB.out.cell (World.block_lt_of_cell? w _ hw205_0)).trans hw205_0),((HB.out.cell (World.block_lt_of_cell? w _ hw205_1)).trans hw205_1),((HB.out.cell (World.block_lt_of_cell? w _ hw206_0)).trans hw206_0),((HB.out.cell (World.block_lt_of_cell? w _ hw206_1)).trans hw206_1)⟩ (fun hHeld HT_ HW_ => ?_)
            generalize wr.drew=w15 at HB hx203_0 hx203_1 hx205_0 hx205_1 hx206_0 hx206_1 hHeld ⊢
            refine pu 0 16 ?_
            refine pu 1 17 ?_
            refine pu 2 18 ?_
            refine ta 3 19 ?_
            refine on 4 20 (fun K hK => ?_)
            refine gs Tryz.func75 #[.agg #[.string ((rd_T61 l0 x3_1).f0),.string ((rd_T61 l0 x3_1).f1)]] ?_
            with_reducible refine (spec_l03Pair.calls ((rd_T61 l0 x3_1).f0) ((rd_T61 l0 x3_1).f1) τ _ A6.out).mono ?_
            rintro e w16 ⟨rfl,hb⟩
            refine ⟨_,rfl,?_⟩
            replace HB:=ζa (δr (by exact HB.out) hb)
            (try clear hb)
            (try clear hb2)
            (try clear hk)
            (try clear hi)
            refine hK.out _ _ ⟨((HB.out.cell (World.block_lt_of_cell? w _ hw203_0)).trans hw203_0),((HB.out.cell (World.block_lt_of_cell? w _ hw203_1)).trans hw203_1),((HB.out.cell (World.block_lt_of_cell? w _ hw205_0)).trans hw205_0),((HB.out.cell (World.block_lt_of_cell? w _ hw205_1)).trans hw205_1),((HB.out.cell (World.block_lt_of_cell? w _ hw206_0)).trans hw206_0),((HB.out.cell (World.block_lt_of_cell? w _ hw206_1)).trans hw206_1)⟩ (fun hHeld => ?_)
            clear hK K
            refine nm 20 ?_
            refine pu 5 21 ?_
            refine pu 6 22 ?_
            refine pu 7 23 ?_
            refine pu 8 24 ?_
            refine pu 9 25 ?_
            refine pu 10 26 ?_
            refine pu 11 27 ?_
            refine pu 12 28 ?_
            refine pu 13 29 ?_
            refine pu 14 30 ?_
            refine pu 16 32 ?_
            refine pu 17 33 ?_
            refine pu 18 34 ?_
            refine pu 19 35 ?_
            refine ta 15 31 ?_
            refine ta 20 36 ?_
            refine pu 21 37 ?_
            refine pu 22 38 ?_
            refine pu 23 39 ?_
            refine done_ (done_of HT_.out (by kernel_rfl)) ?_
            try go_wp2
            go_ret
            exact ⟨by rfl,by repeat ((with_reducible exact HB.out))⟩
          ·
           rw [if_neg c11] at H
           exact absurd H (by simp)
         ·
          rw [if_neg c10] at H
          exact absurd H (by simp)
        ·
         rw [if_neg c8] at H
         have c8b0:decide (0<x3_1)=φ:=decide_eq_false c8
         clear c8
         have H':=ζa H
         clear H
         try go_wp2
         replace HB:=ζa (δj HB.out)
         have p203:0≤(x3_1:Int):=of_decide_eq_true (by (with_reducible assumption))
         have q203:x3_1<(l0.length:Int):=of_decide_eq_true (by (with_reducible assumption))
         obtain ⟨ad203,e203,hx203_0,hx203_1⟩:=at_T61 HR0.out x3_1 p203 q203
         have hw203_1:=hx203_1
         have hw203_0:=hx203_0
         cases e203
         replace hx203_0:=(HB.out.cell (World.block_lt_of_cell? w _ hx203_0)).trans hx203_0
         replace hx203_1:=(HB.out.cell (World.block_lt_of_cell? w _ hx203_1)).trans hx203_1
         replace p203:=eq_true p203
         replace q203:=eq_true q203
         refine sta 24 (fun w'=>w'.cell? (ad203.add ((x3_1).toNat * 2))=some (.string ((rd_T61 l0 x3_1).f0))∧w'.cell? ⟨(ad203.add ((x3_1).toNat * 2)).block,(ad203.add ((x3_1).toNat * 2)).off+1,none⟩=some (.string ((rd_T61 l0 x3_1).f1))) [] spec_StoreOK.tab8 spec_StoreOK.bits8 ⟨((HB.out.cell (World.block_lt_of_cell? w _ hw203_0)).trans hw203_0),((HB.out.cell (World.block_lt_of_cell? w _ hw203_1)).trans hw203_1)⟩ (fun hHeld HT_ HW_ => ?_)
         generalize wr.drew=w17 at HB hx203_0 hx203_1 hHeld ⊢
         refine pu 0 16 ?_
         refine pu 1 17 ?_
         refine pu 2 18 ?_
         refine ta 3 19 ?_
         refine on 4 20 (fun K hK => ?_)
         refine gs Tryz.func75 #[.agg #[.string ((rd_T61 l0 x3_1).f0),.string ((rd_T61 l0 x3_1).f1)]] ?_
         with_reducible refine (spec_l03Pair.calls ((rd_T61 l0 x3_1).f0) ((rd_T61 l0 x3_1).f1) τ _ A6.out).mono ?_
         rintro e w18 ⟨rfl,hb⟩
         refine ⟨_,rfl,?_⟩
         replace HB:=ζa (δr (by exact HB.out) hb)
         (try clear hb)
         (try clear hb2)
         (try clear hk)
         (try clear hi)
         refine hK.out _ _ ⟨((HB.out.cell (World.block_lt_of_cell? w _ hw203_0)).trans hw203_0),((HB.out.cell (World.block_lt_of_cell? w _ hw203_1)).trans hw203_1)⟩ (fun hHeld => ?_)
         clear hK K
         refine nm 20 ?_
         refine pu 5 21 ?_
         refine pu 6 22 ?_
         refine pu 7 23 ?_
         refine pu 8 24 ?_
         refine pu 9 25 ?_
         refine ζk (i:=10) (N:=some 26) (v:=undef) (a':=?_) #[τ,τ,τ,τ,τ,τ,τ,τ,τ,τ,τ,φ,φ,φ,φ,φ,φ,φ,φ,φ,φ,φ,φ,φ] rfl rfl (ζj HT_.out (by kernel_rfl)) (fun _ _ _ h=>h) (Or.inr ⟨by rfl,rfl⟩) ?_ ?_
         rotate_left
         · simp only [ζl,δa,δb,δc,i64_w,i32_w];rfl
         refine ζk (i:=11) (N:=some 27) (v:=undef) (a':=?_) #[τ,τ,τ,τ,τ,τ,τ,τ,τ,τ,τ,τ,φ,φ,φ,φ,φ,φ,φ,φ,φ,φ,φ,φ] rfl rfl (ζj HT_.out (by kernel_rfl)) (fun _ _ _ h=>h) (Or.inr ⟨by rfl,rfl⟩) ?_ ?_
         rotate_left
         · simp only [ζl,δa,δb,δc,i64_w,i32_w];rfl
         refine ζk (i:=12) (N:=some 28) (v:=undef) (a':=?_) #[τ,τ,τ,τ,τ,τ,τ,τ,τ,τ,τ,τ,τ,φ,φ,φ,φ,φ,φ,φ,φ,φ,φ,φ] rfl rfl (ζj HT_.out (by kernel_rfl)) (fun _ _ _ h=>h) (Or.inr ⟨by rfl,rfl⟩) ?_ ?_
         rotate_left
         · simp only [ζl,δa,δb,δc,i64_w,i32_w];rfl
         refine ζk (i:=13) (N:=some 29) (v:=undef) (a':=?_) #[τ,τ,τ,τ,τ,τ,τ,τ,τ,τ,τ,τ,τ,τ,φ,φ,φ,φ,φ,φ,φ,φ,φ,φ] rfl rfl (ζj HT_.out (by kernel_rfl)) (fun _ _ _ h=>h) (Or.inr ⟨by rfl,rfl⟩) ?_ ?_
         rotate_left
         · simp only [ζl,δa,δb,δc,i64_w,i32_w];rfl
         refine ζk (i:=14) (N:=some 30) (v:=undef) (a':=?_) #[τ,τ,τ,τ,τ,τ,τ,τ,τ,τ,τ,τ,τ,τ,τ,φ,φ,φ,φ,φ,φ,φ,φ,φ] rfl rfl (ζj HT_.out (by kernel_rfl)) (fun _ _ _ h=>h) (Or.inr ⟨by rfl,rfl⟩) ?_ ?_
         rotate_left
         · simp only [ζl,δa,δb,δc,i64_w,i32_w];rfl
         refine ζk (i:=15) (N:=some 31) (v:=undef) (a':=?_) #[τ,τ,τ,τ,τ,τ,τ,τ,τ,τ,τ,τ,τ,τ,τ,τ,φ,φ,φ,φ,φ,φ,φ,φ] rfl rfl (ζj HT_.out (by kernel_rfl)) (fun _ _ _ h=>h) (Or.inr ⟨by rfl,rfl⟩) ?_ ?_
         rotate_left
         · simp only [ζl,δa,δb,δc,i64_w,i32_w];rfl
         refine ζk (i:=16) (N:=some 32) (v:=undef) (a':=?_) #[τ,τ,τ,τ,τ,τ,τ,τ,τ,τ,τ,τ,τ,τ,τ,τ,τ,φ,φ,φ,φ,φ,φ,φ] rfl rfl (ζj HT_.out (by kernel_rfl)) (fun _ _ _ h=>h) (Or.inr ⟨by rfl,rfl⟩) ?_ ?_
         rotate_left
         · simp only [ζl,δa,δb,δc,i64_w,i32_w];rfl
         refine ζk (i:=17) (N:=some 33) (v:=undef) (a':=?_) #[τ,τ,τ,τ,τ,τ,τ,τ,τ,τ,τ,τ,τ,τ,τ,τ,τ,τ,φ,φ,φ,φ,φ,φ] rfl rfl (ζj HT_.out (by kernel_rfl)) (fun _ _ _ h=>h) (Or.inr ⟨by rfl,rfl⟩) ?_ ?_
         rotate_left
         · simp only [ζl,δa,δb,δc,i64_w,i32_w];rfl
         refine ζk (i:=18) (N:=some 34) (v:=undef) (a':=?_) #[τ,τ,τ,τ,τ,τ,τ,τ,τ,τ,τ,τ,τ,τ,τ,τ,τ,τ,τ,φ,φ,φ,φ,φ] rfl rfl (ζj HT_.out (by kernel_rfl)) (fun _ _ _ h=>h) (Or.inr ⟨by rfl,rfl⟩) ?_ ?_
         rotate_left
         · simp only [ζl,δa,δb,δc,i64_w,i32_w];rfl
         refine ζk (i:=19) (N:=some 35) (v:=undef) (a':=?_) #[τ,τ,τ,τ,τ,τ,τ,τ,τ,τ,τ,τ,τ,τ,τ,τ,τ,τ,τ,τ,φ,φ,φ,φ] rfl rfl (ζj HT_.out (by kernel_rfl)) (fun _ _ _ h=>h) (Or.inr ⟨by rfl,rfl⟩) ?_ ?_
         rotate_left
         · simp only [ζl,δa,δb,δc,i64_w,i32_w];rfl
         refine ζk (i:=20) (N:=some 36) (v:=undef) (a':=?_) #[τ,τ,τ,τ,τ,τ,τ,τ,τ,τ,τ,τ,τ,τ,τ,τ,τ,τ,τ,τ,τ,φ,φ,φ] rfl rfl (ζj HT_.out (by kernel_rfl)) (fun _ _ _ h=>h) (Or.inr ⟨by rfl,rfl⟩) ?_ ?_
         rotate_left
         · simp only [ζl,δa,δb,δc,i64_w,i32_w];rfl
         refine ζk (i:=21) (N:=some 37) (v:=undef) (a':=?_) #[τ,τ,τ,τ,τ,τ,τ,τ,τ,τ,τ,τ,τ,τ,τ,τ,τ,τ,τ,τ,τ,τ,φ,φ] rfl rfl (ζj HT_.out (by kernel_rfl)) (fun _ _ _ h=>h) (Or.inr ⟨by rfl,rfl⟩) ?_ ?_
         rotate_left
         · simp only [ζl,δa,δb,δc,i64_w,i32_w];rfl
         refine pu 22 38 ?_
         refine pu 23 39 ?_
         refine done_ (done_of HT_.out (by kernel_rfl)) ?_
         try go_wp2
         go_roundg k1
         case measure=>have:=HK1.out;omega
         case rel=>exact ⟨(ζm (x3_1+1)),(by rfl),H',⟨by have:=HK1.out;omega⟩,⟨by repeat ((with_reducible exact HB.out))⟩⟩
       ·
        replace c7:=Bool.eq_false_iff.mpr c7
        subst c7
        rw [ifF] at H
        obtain rfl:=Option.some.inj H
        try go_wp2
        replace HB:=ζa (δj HB.out)
        have p203:0≤(x3_1:Int):=of_decide_eq_true (by (with_reducible assumption))
        have q203:x3_1<(l0.length:Int):=of_decide_eq_true (by (with_reducible assumption))
        obtain ⟨ad203,e203,hx203_0,hx203_1⟩:=at_T61 HR0.out x3_1 p203 q203
        have hw203_1:=hx203_1
        have hw203_0:=hx203_0
        cases e203
        replace hx203_0:=(HB.out.cell (World.block_lt_of_cell? w _ hx203_0)).trans hx203_0
        replace hx203_1:=(HB.out.cell (World.block_lt_of_cell? w _ hx203_1)).trans hx203_1
        replace p203:=eq_true p203
        replace q203:=eq_true q203
        refine sta 24 (fun w'=>w'.cell? (ad203.add ((x3_1).toNat * 2))=some (.string ((rd_T61 l0 x3_1).f0))∧w'.cell? ⟨(ad203.add ((x3_1).toNat * 2)).block,(ad203.add ((x3_1).toNat * 2)).off+1,none⟩=some (.string ((rd_T61 l0 x3_1).f1))) [] spec_StoreOK.tab8 spec_StoreOK.bits8 ⟨((HB.out.cell (World.block_lt_of_cell? w _ hw203_0)).trans hw203_0),((HB.out.cell (World.block_lt_of_cell? w _ hw203_1)).trans hw203_1)⟩ (fun hHeld HT_ HW_ => ?_)
        generalize wr.drew=w19 at HB hx203_0 hx203_1 hHeld ⊢
        refine pu 0 16 ?_
        refine pu 1 17 ?_
        refine pu 2 18 ?_
        refine ta 3 19 ?_
        refine on 4 20 (fun K hK => ?_)
        refine gs Tryz.func75 #[.agg #[.string ((rd_T61 l0 x3_1).f0),.string ((rd_T61 l0 x3_1).f1)]] ?_
        with_reducible refine (spec_l03Pair.calls ((rd_T61 l0 x3_1).f0) ((rd_T61 l0 x3_1).f1) φ _ A6.out).mono ?_
        rintro e w20 ⟨rfl,hb⟩
        refine ⟨_,rfl,?_⟩
        replace HB:=ζa (δr (by exact HB.out) hb)
        (try clear hb)
        (try clear hb2)
        (try clear hk)
        (try clear hi)
        refine hK.out _ _ ⟨((HB.out.cell (World.block_lt_of_cell? w _ hw203_0)).trans hw203_0),((HB.out.cell (World.block_lt_of_cell? w _ hw203_1)).trans hw203_1)⟩ (fun hHeld => ?_)
        clear hK K
        refine nm 20 ?_
        refine pu 5 21 ?_
        refine pu 6 22 ?_
        refine ζk (i:=7) (N:=some 23) (v:=undef) (a':=?_) #[τ,τ,τ,τ,τ,τ,τ,τ,φ,φ,φ,φ,φ,φ,φ,φ,φ,φ,φ,φ,φ,φ,φ,φ] rfl rfl (ζj HT_.out (by kernel_rfl)) (fun _ _ _ h=>h) (Or.inr ⟨by rfl,rfl⟩) ?_ ?_
        rotate_left
        · simp only [ζl,δa,δb,δc,i64_w,i32_w];rfl
        refine ζk (i:=8) (N:=some 24) (v:=undef) (a':=?_) #[τ,τ,τ,τ,τ,τ,τ,τ,τ,φ,φ,φ,φ,φ,φ,φ,φ,φ,φ,φ,φ,φ,φ,φ] rfl rfl (ζj HT_.out (by kernel_rfl)) (fun _ _ _ h=>h) (Or.inr ⟨by rfl,rfl⟩) ?_ ?_
        rotate_left
        · simp only [ζl,δa,δb,δc,i64_w,i32_w];rfl
        refine ζk (i:=9) (N:=some 25) (v:=undef) (a':=?_) #[τ,τ,τ,τ,τ,τ,τ,τ,τ,τ,φ,φ,φ,φ,φ,φ,φ,φ,φ,φ,φ,φ,φ,φ] rfl rfl (ζj HT_.out (by kernel_rfl)) (fun _ _ _ h=>h) (Or.inr ⟨by rfl,rfl⟩) ?_ ?_
        rotate_left
        · simp only [ζl,δa,δb,δc,i64_w,i32_w];rfl
        refine ζk (i:=10) (N:=some 26) (v:=undef) (a':=?_) #[τ,τ,τ,τ,τ,τ,τ,τ,τ,τ,τ,φ,φ,φ,φ,φ,φ,φ,φ,φ,φ,φ,φ,φ] rfl rfl (ζj HT_.out (by kernel_rfl)) (fun _ _ _ h=>h) (Or.inr ⟨by rfl,rfl⟩) ?_ ?_
        rotate_left
        · simp only [ζl,δa,δb,δc,i64_w,i32_w];rfl
        refine ζk (i:=11) (N:=some 27) (v:=undef) (a':=?_) #[τ,τ,τ,τ,τ,τ,τ,τ,τ,τ,τ,τ,φ,φ,φ,φ,φ,φ,φ,φ,φ,φ,φ,φ] rfl rfl (ζj HT_.out (by kernel_rfl)) (fun _ _ _ h=>h) (Or.inr ⟨by rfl,rfl⟩) ?_ ?_
        rotate_left
        · simp only [ζl,δa,δb,δc,i64_w,i32_w];rfl
        refine ζk (i:=12) (N:=some 28) (v:=undef) (a':=?_) #[τ,τ,τ,τ,τ,τ,τ,τ,τ,τ,τ,τ,τ,φ,φ,φ,φ,φ,φ,φ,φ,φ,φ,φ] rfl rfl (ζj HT_.out (by kernel_rfl)) (fun _ _ _ h=>h) (Or.inr ⟨by rfl,rfl⟩) ?_ ?_
        rotate_left
        · simp only [ζl,δa,δb,δc,i64_w,i32_w];rfl
        refine ζk (i:=13) (N:=some 29) (v:=undef) (a':=?_) #[τ,τ,τ,τ,τ,τ,τ,τ,τ,τ,τ,τ,τ,τ,φ,φ,φ,φ,φ,φ,φ,φ,φ,φ] rfl rfl (ζj HT_.out (by kernel_rfl)) (fun _ _ _ h=>h) (Or.inr ⟨by rfl,rfl⟩) ?_ ?_
        rotate_left
        · simp only [ζl,δa,δb,δc,i64_w,i32_w];rfl
        refine ζk (i:=14) (N:=some 30) (v:=undef) (a':=?_) #[τ,τ,τ,τ,τ,τ,τ,τ,τ,τ,τ,τ,τ,τ,τ,φ,φ,φ,φ,φ,φ,φ,φ,φ] rfl rfl (ζj HT_.out (by kernel_rfl)) (fun _ _ _ h=>h) (Or.inr ⟨by rfl,rfl⟩) ?_ ?_
        rotate_left
        · simp only [ζl,δa,δb,δc,i64_w,i32_w];rfl
        refine ζk (i:=15) (N:=some 31) (v:=undef) (a':=?_) #[τ,τ,τ,τ,τ,τ,τ,τ,τ,τ,τ,τ,τ,τ,τ,τ,φ,φ,φ,φ,φ,φ,φ,φ] rfl rfl (ζj HT_.out (by kernel_rfl)) (fun _ _ _ h=>h) (Or.inr ⟨by rfl,rfl⟩) ?_ ?_
        rotate_left
        · simp only [ζl,δa,δb,δc,i64_w,i32_w];rfl
        refine ζk (i:=16) (N:=some 32) (v:=undef) (a':=?_) #[τ,τ,τ,τ,τ,τ,τ,τ,τ,τ,τ,τ,τ,τ,τ,τ,τ,φ,φ,φ,φ,φ,φ,φ] rfl rfl (ζj HT_.out (by kernel_rfl)) (fun _ _ _ h=>h) (Or.inr ⟨by rfl,rfl⟩) ?_ ?_
        rotate_left
        · simp only [ζl,δa,δb,δc,i64_w,i32_w];rfl
        refine ζk (i:=17) (N:=some 33) (v:=undef) (a':=?_) #[τ,τ,τ,τ,τ,τ,τ,τ,τ,τ,τ,τ,τ,τ,τ,τ,τ,τ,φ,φ,φ,φ,φ,φ] rfl rfl (ζj HT_.out (by kernel_rfl)) (fun _ _ _ h=>h) (Or.inr ⟨by rfl,rfl⟩) ?_ ?_
        rotate_left
        · simp only [ζl,δa,δb,δc,i64_w,i32_w];rfl
        refine ζk (i:=18) (N:=some 34) (v:=undef) (a':=?_) #[τ,τ,τ,τ,τ,τ,τ,τ,τ,τ,τ,τ,τ,τ,τ,τ,τ,τ,τ,φ,φ,φ,φ,φ] rfl rfl (ζj HT_.out (by kernel_rfl)) (fun _ _ _ h=>h) (Or.inr ⟨by rfl,rfl⟩) ?_ ?_
        rotate_left
        · simp only [ζl,δa,δb,δc,i64_w,i32_w];rfl
        refine ζk (i:=19) (N:=some 35) (v:=undef) (a':=?_) #[τ,τ,τ,τ,τ,τ,τ,τ,τ,τ,τ,τ,τ,τ,τ,τ,τ,τ,τ,τ,φ,φ,φ,φ] rfl rfl (ζj HT_.out (by kernel_rfl)) (fun _ _ _ h=>h) (Or.inr ⟨by rfl,rfl⟩) ?_ ?_
        rotate_left
        · simp only [ζl,δa,δb,δc,i64_w,i32_w];rfl
        refine ζk (i:=20) (N:=some 36) (v:=undef) (a':=?_) #[τ,τ,τ,τ,τ,τ,τ,τ,τ,τ,τ,τ,τ,τ,τ,τ,τ,τ,τ,τ,τ,φ,φ,φ] rfl rfl (ζj HT_.out (by kernel_rfl)) (fun _ _ _ h=>h) (Or.inr ⟨by rfl,rfl⟩) ?_ ?_
        rotate_left
        · simp only [ζl,δa,δb,δc,i64_w,i32_w];rfl
        refine ζk (i:=21) (N:=some 37) (v:=undef) (a':=?_) #[τ,τ,τ,τ,τ,τ,τ,τ,τ,τ,τ,τ,τ,τ,τ,τ,τ,τ,τ,τ,τ,τ,φ,φ] rfl rfl (ζj HT_.out (by kernel_rfl)) (fun _ _ _ h=>h) (Or.inr ⟨by rfl,rfl⟩) ?_ ?_
        rotate_left
        · simp only [ζl,δa,δb,δc,i64_w,i32_w];rfl
        refine ζk (i:=22) (N:=some 38) (v:=undef) (a':=?_) #[τ,τ,τ,τ,τ,τ,τ,τ,τ,τ,τ,τ,τ,τ,τ,τ,τ,τ,τ,τ,τ,τ,τ,φ] rfl rfl (ζj HT_.out (by kernel_rfl)) (fun _ _ _ h=>h) (Or.inr ⟨by rfl,rfl⟩) ?_ ?_
        rotate_left
        · simp only [ζl,δa,δb,δc,i64_w,i32_w];rfl
        refine pu 23 39 ?_
        refine done_ (done_of HT_.out (by kernel_rfl)) ?_
        try go_wp2
        go_ret
        exact ⟨by rfl,by repeat ((with_reducible exact HB.out))⟩
      ·
       rw [if_neg c5] at H
       exact absurd H (by simp)
     ·
      rw [if_neg c4] at H
      have c4b0:=decide_eq_false c4
      clear c4
      obtain rfl:=Option.some.inj H
      go_wp2
      go_ret
      exact ⟨by rfl,by repeat ((with_reducible exact HB.out))⟩


set_option maxHeartbeats 8000000
set_option maxRecDepth 100000

/-! ### spec_l03At: function 110 -/
def spec_l03At.l0:Nat→List (S61)→ByteArray→Int→Int→Option (Int)
 | 0,_,_,_,_=>none
 | k+1,x0,x1,x5,x6=>if x5<x6 then (if 0≤(ζm (Int.tdiv (ζm (x5+x6)) 2)) then (if (ζm (Int.tdiv (ζm (x5+x6)) 2))<(x0.length:Int) then (if (Op.bytesLess (((rd_T61 x0 (ζm (Int.tdiv (ζm (x5+x6)) 2))).f0).toList) x1.toList)=τ then (spec_l03At.l0 k x0 x1 (ζm ((ζm (Int.tdiv (ζm (x5+x6)) 2))+1)) x6) else (spec_l03At.l0 k x0 x1 x5 (ζm (Int.tdiv (ζm (x5+x6)) 2)))) else (none)) else (none)) else (some x5)
def spec_l03At.f (k:Nat) (l0:List (S61)) (a1:ByteArray):Option (Int):=spec_l03At.l0 k l0 a1 0 (l0.length:Int)
theorem spec_l03At.calls (k:Nat) (A0:Option Addr) (c0:Nat) (l0:List (S61)) (a1:ByteArray) (r:Int) (w:World) (hr0:Kd.C k61 w A0 l0.length l0) (hc0:l0.length≤c0) (h:spec_l03At.f k l0 a1=some r) :
  Calls Tryz.prog 110 #[.slice A0 l0.length c0,.string a1] w fun e w'=>e = .returned (.int .i64 r)∧Drawn0 w w':=by
 have HR0:=ζa hr0
 have HC0:=ζa hc0
 clear hr0 hc0
 have H:(spec_l03At.l0 k l0 a1 0 (l0.length:Int))=some r:=h
 clear h
 have H':=ζa H
 clear H
 go_enter Tryz.func110,Tryz.ntmps110
 go_wp2
 go_loopg [5,6] k (fun kq v5 v6 w' => ∃ (x5_1:Int) (x6_1:Int),v5 = .int .i64 x5_1∧v6 = .int .i64 x6_1∧Aside0 (spec_l03At.l0 kq l0 a1 x5_1 x6_1=some r)∧Aside0 (kq≤k)∧Drawn0 w w')
 case atStart=>exact ⟨(0),((l0.length:Int)),(by rfl),(by rfl),H',⟨Nat.le_refl _⟩,by repeat (exact Drawn0.refl _)⟩
 case round =>
  clear H'
  try clear c1
  try clear p2
  obtain ⟨x5_1,x6_1,rfl,rfl,HA,HK1,⟨m1,rfl⟩⟩:=hrel
  cases gk with
  | zero=>exact absurd HA.out (by simp [spec_l03At.l0])
  | succ k1 =>
   have H:=HA.out
   clear HA
   simp only [spec_l03At.l0] at H
   by_cases c3:x5_1<x6_1
   ·
    rw [if_pos c3] at H
    have c3b0:=decide_eq_true c3
    clear c3
    obtain ⟨ji4,hji4⟩ : ∃ j_:Int,(ζm (Int.tdiv (ζm (x5_1+x6_1)) 2))=j_:=⟨_,rfl⟩
    replace H:(if 0≤(ji4) then (if (ji4)<(l0.length:Int) then (if (Op.bytesLess (((rd_T61 l0 (ji4)).f0).toList) a1.toList)=τ then (spec_l03At.l0 k1 l0 a1 (ζm ((ji4)+1)) x6_1) else (spec_l03At.l0 k1 l0 a1 x5_1 ji4)) else (none)) else (none))=some r:=by (rw [hji4] at H;exact H)
    have hji4w:(IntKind.i64.wrap (Int.tdiv (ζm (x5_1+x6_1)) 2))=ji4:=(i64_w _).trans hji4
    by_cases c5:0≤(ji4)
    ·
     rw [if_pos c5] at H
     have c5b0:=decide_eq_true c5
     clear c5
     by_cases c6:(ji4)<(l0.length:Int)
     ·
      rw [if_pos c6] at H
      have c6b0:=decide_eq_true c6
      clear c6
      by_cases c7:(Op.bytesLess (((rd_T61 l0 (ji4)).f0).toList) a1.toList)=τ
      ·
       rw [if_pos c7] at H
       have c7b0:(Op.bytesLess (((rd_T61 l0 (ji4)).f0).toList) a1.toList)=τ:=c7
       clear c7
       have H':=ζa H
       clear H
       have p217:0≤((ji4):Int):=of_decide_eq_true (by (with_reducible assumption))
       have q217:(ji4)<(l0.length:Int):=of_decide_eq_true (by (with_reducible assumption))
       obtain ⟨ad217,e217,hx217_0,hx217_1⟩:=at_T61 HR0.out (ji4) p217 q217
       cases e217
       replace p217:=eq_true p217
       replace q217:=eq_true q217
       go_wp2
       go_roundg k1
       case measure=>have:=HK1.out;omega
       case rel=>exact ⟨(ζm ((ji4)+1)),(x6_1),(by rfl),(by rfl),H',⟨by have:=HK1.out;omega⟩,by repeat (first|exact Drawn0.refl _|apply Drawn0.step)⟩
      ·
       rw [if_neg c7] at H
       have c7b0:(Op.bytesLess (((rd_T61 l0 (ji4)).f0).toList) a1.toList)=φ:=by simpa using c7
       clear c7
       have H':=ζa H
       clear H
       have p217:0≤((ji4):Int):=of_decide_eq_true (by (with_reducible assumption))
       have q217:(ji4)<(l0.length:Int):=of_decide_eq_true (by (with_reducible assumption))
       obtain ⟨ad217,e217,hx217_0,hx217_1⟩:=at_T61 HR0.out (ji4) p217 q217
       cases e217
       replace p217:=eq_true p217
       replace q217:=eq_true q217
       go_wp2
       go_roundg k1
       case measure=>have:=HK1.out;omega
       case rel=>exact ⟨(x5_1),(ji4),(by rfl),(by rfl),H',⟨by have:=HK1.out;omega⟩,by repeat (first|exact Drawn0.refl _|apply Drawn0.step)⟩
     ·
      rw [if_neg c6] at H
      exact absurd H (by simp)
    ·
     rw [if_neg c5] at H
     exact absurd H (by simp)
   ·
    rw [if_neg c3] at H
    have c3b0:=decide_eq_false c3
    clear c3
    obtain rfl:=Option.some.inj H
    go_wp2
    go_ret
    exact ⟨by rfl,by repeat (first|exact Drawn0.refl _|apply Drawn0.step)⟩


open Go.Proofs.YtggemblkhckbpaaGreatDoorW.PrintWords.Kd renaming R_below → ζh, R_reads' → ζg, R_alloc → ζd
open Go.Proofs.YtggemblkhckbpaaGreatDoorW.PrintWords renaming below_alloc → δk, below_drew1 → δj, pw_below_drewN → δi, blk_alloc → δo, gate_dst → δx, below_set → δq
open List renaming length_take → δh, length_drop → δg
set_option maxHeartbeats 8000000
set_option maxRecDepth 100000


/-! ### spec_l03Put: function 66 -/
/-- A row that is the one handed over,or a new one. -/
structure Sf (w w':World) (a:Value) (l:List S61) (v:Value) (r:List S61):Prop where
 out:(v=a∧r=l) ∨ Kd.R k61 61 w' w.heap.size (fun _=>True) v r
theorem Sf.below {w w1 w2:World} {a v:Value} {l r:List S61} (h:Sf w w1 a l v r) (hb:Below w1.heap.size w1 w2):Sf w w2 a l v r:=⟨h.out.imp id (fun h=>ζh h hb)⟩
theorem Sf.alloc {w w1:World} {a v:Value} {l r:List S61} (h:Sf w w1 a l v r) (o:Obj):Sf w (w1.alloc o) a l v r:=h.below (δk (Below.refl _ _) o)
theorem Sf.drew {w w1:World} {a v:Value} {l r:List S61} (h:Sf w w1 a l v r):Sf w w1.drew a l v r:=h.below (δj (Below.refl _ _))
theorem Sf.drewN {w w1:World} {a v:Value} {l r:List S61} (h:Sf w w1 a l v r) (n:Nat):Sf w (w1.drewN n) a l v r:=h.below (δi (Below.refl _ _) n)
theorem Sf.set {w w1:World} {a v:Value} {l r:List S61} (h:Sf w w1 a l v r) {g t:Nat} {cells:Array Value} (hb:w1.heap[g]? = some (.cells cells t (0,0))) (ht:61≠t) (j:Nat) (u:Value):Sf w (w1.setCell ⟨g,j,none⟩ u) a l v r :=
 ⟨h.out.imp id (fun h=>Kd.R_set h hb (fun q hq=>by
  have:q=61:=by simpa [k61,Kd.iso,Kd.pair,Kd.string,Kd.scalar] using hq
  rw [this];exact ht) j u)⟩
theorem Sf.trans {w W w':World} {a v u:Value} {l r y:List S61} (h1:Sf w W a l u y) (h2:Sf W w' u y v r) (hb:Below W.heap.size W w') (hs:w.heap.size≤W.heap.size):Sf w w' a l v r:=by
 obtain ⟨⟨rfl,rfl⟩|h⟩:=h2
 · exact h1.below hb
 ·
  exact ⟨Or.inr (Kd.R_lower h hs)⟩
theorem Sf.reads {w w':World} {A:Option Addr} {c:Nat} {v:Value} {l r:List S61} (h:Sf w w' (.slice A l.length c) l v r) (hr:Kd.C k61 w' A l.length l) (hc:l.length≤c) : ∃ A c,v = .slice A r.length c∧r.length≤c∧Kd.C k61 w' A r.length r:=by
 obtain ⟨⟨rfl,rfl⟩|h⟩:=h
 · exact ⟨_,_,rfl,hc,hr⟩
 ·
  exact Kd.R_reads h
theorem Sf.row {w w':World} {A A':Option Addr} {c c' n':Nat} {l r:List S61} (h:Sf w w' (.slice A l.length c) l (.slice A' n' c') r) (hr:Kd.C k61 w' A l.length l):Kd.C k61 w' A' r.length r:=by
 obtain ⟨⟨e,rfl⟩|h⟩:=h
 ·
  simp only [Value.slice.injEq] at e
  obtain ⟨rfl,_,_⟩:=e
  exact hr
 · exact (ζg h).2.2
theorem R_empty {w:World} {base g:Nat} (hb:base≤g) (h:w.heap[g]? = some (.cells #[] 61 (0,0))):Kd.R k61 61 w base (fun _=>True) (.slice (some ⟨g,0,none⟩) 0 0) [] :=
 ⟨fun _ _=>trivial,[],⟨rfl,Or.inr ⟨g,0,#[],rfl,hb,h,Nat.le_refl _,by decide,rfl,rfl⟩⟩,Reps.none _ _⟩
theorem C_takeN {w:World} {A:Option Addr} {l:List S61} (h:Kd.C k61 w A l.length l) {i:Nat} (hi:i≤l.length):Kd.C k61 w A i (l.take i):=by
 have:=Kd.C_take h hi
 rwa [δh,Nat.min_eq_left hi] at this
theorem C_dropN {w:World} {ad:Addr} {c:Nat} {l:List S61} (h:Kd.C k61 w (some ad) l.length l) (hc:l.length≤c) {i:Nat} (hi:i≤l.length):Kd.C k61 w (if c=i then some ad else some (ad.add (i * 2))) (l.length - i) (l.drop i):=by
 have:=Kd.C_drop h hi hc
 rw [δg] at this
 exact this
theorem C_one {w:World} {g:Nat} {a b:ByteArray} (h:w.heap[g]? = some (.cells #[.string a,.string b] 61 (0,0))):Kd.C k61 w (some ⟨g,0,none⟩) 1 [⟨a,b⟩]:=⟨rfl,by decide,fun _=>⟨_,rfl,fun j q hj=>by
  have hj0:j=0:=by
   rcases j with _|j
   · rfl
   ·
    simp at hj
  subst hj0
  have hq:(⟨a,b⟩:S61)=q:=by simpa using hj
  subst hq
  refine ⟨[.string a,.string b],rfl,k61.K_of_M (k61_mkM w 0 (fun _=>True) ⟨a,b⟩),fun t u hu => ?_⟩
  rw [Addr.add_lit,cell_of_row w g _ _ _ (0,0) h]
  rcases t with _|_|t
  · simpa using hu
  ·
   simpa using hu
  · simp at hu⟩⟩
theorem C_nilN {w:World} {A:Option Addr} {m:Nat} (h:m=0):Kd.C k61 w A m ([]:List S61):=⟨by rw [h];rfl,by rw [h];decide,fun hp=>absurd hp (by omega)⟩
def spec_l03Put.f (k:Nat) (l0:List S61) (a1 a2:ByteArray):Option (List S61 × Int) :=
 (spec_l03At.f k l0 a1).bind fun t=>if l0.length≤1000000 then (if 0≤t then (if t≤(l0.length:Int) then (if t<(l0.length:Int)∧((rd_T61 l0 t).f0).toList=a1.toList then some (l0.set t.toNat ⟨(rd_T61 l0 t).f0,a2⟩,0) else (if (l0.length:Int)=400 then some (l0,7) else some (l0.insertIdx t.toNat ⟨a1,a2⟩,0))) else none) else none) else none
theorem spec_l03Put.ins (l:List S61) (i:Nat) (p:S61) (h:i≤l.length):l.insertIdx i p = [] ++ l.take i ++ [p] ++ l.drop i:=by
 induction l generalizing i with
 | nil=>cases i with
  | zero=>rfl
  | succ i=>simp at h
 | cons x l ih=>cases i with
  | zero=>simp
  | succ i=>rw [List.insertIdx_succ_cons,ih i (by simpa using h)];simp
theorem spec_l03Put.miss (k:Nat) (A0:Option Addr) (c0:Nat) (l0:List S61) (a1 a2:ByteArray) (i:Nat) (w:World) (hr0:Kd.C k61 w A0 l0.length l0) (hc0:l0.length≤c0) (h1:spec_l03At.f k l0 a1=some (i:Int)) (hl:l0.length≤1000000) (hi:i≤l0.length) (hn:(i:Int)<(l0.length:Int) → ¬ ((rd_T61 l0 (i:Int)).f0).toList=a1.toList) (h4 : ¬ (l0.length:Int)=400) :
  Calls Tryz.prog 66 #[.slice A0 l0.length c0,.string a1,.string a2] w fun e w' => ∃ v0_:Value,e = .returned (.tuple #[v0_,.int .i64 0])∧Sf w w' (.slice A0 l0.length c0) l0 v0_ (l0.insertIdx i ⟨a1,a2⟩)∧Below w.heap.size w w':=by
 have H1:=ζa h1
 have HR0:=ζa hr0
 have HC0:=ζa hc0
 have HN:=ζa hn
 have c4:((l0.length:Int) == 400)=φ:=beq_eq_false_iff_ne.mpr h4
 have HTK:=ζa (C_takeN HR0.out (i:=i) (by omega))
 clear h1 hr0 hc0 hn h4
 go_enter Tryz.func66,Tryz.ntmps66
 go_wp2_with fail
 refine (spec_l03At.calls k A0 c0 l0 a1 (i:Int) _ HR0.out HC0.out H1.out).mono ?_
 rintro e w1 ⟨rfl,⟨q',rfl⟩⟩
 have p2:(i:Int)≤(c0:Int):=by have:=HC0.out;omega
 have p3:(i:Int)≤(l0.length:Int):=by omega
 have p4:(0:Int)≤(i:Int):=by omega
 by_cases g2:(i:Int)<(l0.length:Int)
 ·
  obtain ⟨ad,e1,hx0,hx1⟩:=at_T61 HR0.out (i:Int) p4 g2
  simp only [Int.toNat_natCast] at hx0 hx1
  cases e1
  have g6:(((rd_T61 l0 (i:Int)).f0).toList == a1.toList)=φ:=beq_eq_false_iff_ne.mpr (HN.out g2)
  have HDR:=ζa (C_dropN HR0.out HC0.out (i:=i) (by omega))
  go_wp2_with fail
  go_region_held3 (fun _=>True) (trivial) (first|((refine Kd.R_append_rows_step k61 (w0:=w) (Rr:=k61.K _) w.heap.size (by rfl) (.tmp 39) (.tmp 42) 25 61 (.agg #[(.string ⟨#[]⟩),(.string ⟨#[]⟩)]) 32 (by rfl) Tryz.underlying25 info61 rfl (by decide) (by decide) _ [] (l0.take i) _ _ _ (fun _=>True) (fun _=>False) (by rfl) (by rfl) (R_empty (Nat.le_refl _) (heap_alloc_new _ _)) (Kd.C_alloc (Kd.C_drewN HTK.out _) _) (fun x cs h=>by rw [k61_open h];exact k61_mkM _ _ _ x) (fun _ h=>h.elim) (fun _ _=>trivial) (δk (δi (Below.refl _ _) _) _) ((δk (δi (Below.refl _ _) _) _)).size (by simp only [List.length_nil];omega) ?_;intro v43 w43 ho43 hb43 hg hn;clear hg hn))|((refine Kd.R_append_rows_step k61 (w0:=w) (Rr:=k61.K _) w.heap.size (by rfl) (.tmp 39) (.tmp 42) 25 61 (.agg #[(.string ⟨#[]⟩),(.string ⟨#[]⟩)]) 32 (by rfl) Tryz.underlying25 info61 rfl (by decide) (by decide) _ [] (l0.take i) _ _ _ (fun _=>True) (fun _=>False) (by rfl) (by rfl) (R_empty (Nat.le_refl _) (δo (heap_alloc_new _ _) _)) (Kd.C_alloc (Kd.C_alloc (Kd.C_drewN HTK.out _) _) _) (fun x cs h=>by rw [k61_open h];exact k61_mkM _ _ _ x) (fun _ h=>h.elim) (fun _ _=>trivial) (δk (δk (δi (Below.refl _ _) _) _) _) ((δk (δk (δi (Below.refl _ _) _) _) _)).size (by simp only [List.length_nil];omega) ?_;intro v43 w43 ho43 hb43 hg hn;have hq:=heap_alloc_new ((w.drewN (q'+1)).alloc (.cells #[] 61)) (.cells #[.string a1,.string a2] 61);rw [show ((w.drewN (q'+1)).alloc (.cells #[] 61)).heap.size=w.heap.size+1 by simp] at hq;have hp43:=(hg.block _ (blk_lt hq) (show some (w.heap.size+1)≠some w.heap.size by simp)).trans hq;clear hg hn hq))|((refine Kd.R_append_rows_step k61 (w0:=w) (Rr:=k61.K _) w.heap.size (by rfl) (.tmp 39) (.tmp 42) 25 61 (.agg #[(.string ⟨#[]⟩),(.string ⟨#[]⟩)]) 32 (by rfl) Tryz.underlying25 info61 rfl (by decide) (by decide) _ [] (l0.take i) _ _ _ (fun _=>True) (fun _=>False) (by rfl) (by rfl) (R_empty (Nat.le_succ _) (by have hq:=heap_alloc_new ((w.drewN (q'+1)).alloc (.cells #[.string a1,.string a2] 61)) (.cells #[] 61);rw [show ((w.drewN (q'+1)).alloc (.cells #[.string a1,.string a2] 61)).heap.size=w.heap.size+1 by simp] at hq;exact hq)) (Kd.C_alloc (Kd.C_alloc (Kd.C_drewN HTK.out _) _) _) (fun x cs h=>by rw [k61_open h];exact k61_mkM _ _ _ x) (fun _ h=>h.elim) (fun _ _=>trivial) (δk (δk (δi (Below.refl _ _) _) _) _) ((δk (δk (δi (Below.refl _ _) _) _) _)).size (by simp only [List.length_nil];omega) ?_;intro v43 w43 ho43 hb43 hg hn;have hq:=δo (heap_alloc_new (w.drewN (q'+1)) (.cells #[.string a1,.string a2] 61)) (.cells #[] 61);have hp43:=(hg.block _ (blk_lt hq) (show some w.heap.size≠some (w.heap.size+1) by simp)).trans hq;clear hg hn hq))|((refine Kd.R_append_rows_step k61 (w0:=w) (Rr:=k61.K _) w.heap.size (by rfl) (.tmp 43) (.tmp 47) 25 61 (.agg #[(.string ⟨#[]⟩),(.string ⟨#[]⟩)]) 32 (by rfl) Tryz.underlying25 info61 rfl (by decide) (by decide) _ _ [⟨a1,a2⟩] _ _ _ (fun _=>True) (fun _=>False) (by rfl) (by rfl) (ζd ho43 _) (C_one (heap_alloc_new _ _)) (fun x cs h=>by rw [k61_open h];exact k61_mkM _ _ _ x) (fun _ h=>h.elim) (fun _ _=>trivial) (δk hb43 _) ((δk hb43 _)).size (by simp only [List.nil_append,δh];omega) ?_;intro v48 w48 ho48 hb48 hg hn;clear hg hn))|((refine Kd.R_append_rows_step k61 (w0:=w) (Rr:=k61.K _) w.heap.size (by rfl) (.tmp 43) (.tmp 47) 25 61 (.agg #[(.string ⟨#[]⟩),(.string ⟨#[]⟩)]) 32 (by rfl) Tryz.underlying25 info61 rfl (by decide) (by decide) _ _ [⟨a1,a2⟩] _ _ _ (fun _=>True) (fun _=>False) (by rfl) (by rfl) ho43 (C_one hp43) (fun x cs h=>by rw [k61_open h];exact k61_mkM _ _ _ x) (fun _ h=>h.elim) (fun _ _=>trivial) hb43 (hb43).size (by simp only [List.nil_append,δh];omega) ?_;intro v48 w48 ho48 hb48 hg hn;clear hg hn))|((refine Kd.R_append_rows_step k61 (w0:=w) (Rr:=k61.K _) w.heap.size (by rfl) (.tmp 48) (.tmp 51) 25 61 (.agg #[(.string ⟨#[]⟩),(.string ⟨#[]⟩)]) 32 (by rfl) Tryz.underlying25 info61 rfl (by decide) (by decide) _ _ (l0.drop i) _ _ _ (fun _=>True) (fun _=>False) (by rfl) (by rfl) ho48 (Kd.C_below HDR.out hb48) (fun x cs h=>by rw [k61_open h];exact k61_mkM _ _ _ x) (fun _ h=>h.elim) (fun _ _=>trivial) hb48 (hb48).size (by simp only [List.nil_append,List.length_append,δh,List.length_singleton];omega) ?_;intro v52 w52 ho52 hb52 hg hn;clear hg hn)))
  all_goals (rw [← spec_l03Put.ins l0 i ⟨a1,a2⟩ hi] at ho52;have HO52:=ζa ho52;have HB52:=ζa hb52;clear ho52 hb52 ho48 hb48 ho43 hb43)
  all_goals go_wp2
  all_goals (go_ret2;exact ⟨_,rfl,⟨Or.inr HO52.out⟩,HB52.out⟩)
 ·
  obtain rfl:i=l0.length:=by omega
  clear g2
  go_wp2_with fail
  go_region_held3 (fun _=>True) (trivial) (first|((refine Kd.R_append_rows_step k61 (w0:=w) (Rr:=k61.K _) w.heap.size (by rfl) (.tmp 39) (.tmp 42) 25 61 (.agg #[(.string ⟨#[]⟩),(.string ⟨#[]⟩)]) 32 (by rfl) Tryz.underlying25 info61 rfl (by decide) (by decide) _ [] (l0.take l0.length) _ _ _ (fun _=>True) (fun _=>False) (by rfl) (by rfl) (R_empty (Nat.le_refl _) (heap_alloc_new _ _)) (Kd.C_alloc (Kd.C_drewN HTK.out _) _) (fun x cs h=>by rw [k61_open h];exact k61_mkM _ _ _ x) (fun _ h=>h.elim) (fun _ _=>trivial) (δk (δi (Below.refl _ _) _) _) ((δk (δi (Below.refl _ _) _) _)).size (by simp only [List.length_nil];omega) ?_;intro v43 w43 ho43 hb43 hg hn;clear hg hn))|((refine Kd.R_append_rows_step k61 (w0:=w) (Rr:=k61.K _) w.heap.size (by rfl) (.tmp 39) (.tmp 42) 25 61 (.agg #[(.string ⟨#[]⟩),(.string ⟨#[]⟩)]) 32 (by rfl) Tryz.underlying25 info61 rfl (by decide) (by decide) _ [] (l0.take l0.length) _ _ _ (fun _=>True) (fun _=>False) (by rfl) (by rfl) (R_empty (Nat.le_refl _) (δo (heap_alloc_new _ _) _)) (Kd.C_alloc (Kd.C_alloc (Kd.C_drewN HTK.out _) _) _) (fun x cs h=>by rw [k61_open h];exact k61_mkM _ _ _ x) (fun _ h=>h.elim) (fun _ _=>trivial) (δk (δk (δi (Below.refl _ _) _) _) _) ((δk (δk (δi (Below.refl _ _) _) _) _)).size (by simp only [List.length_nil];omega) ?_;intro v43 w43 ho43 hb43 hg hn;have hq:=heap_alloc_new ((w.drewN (q'+1)).alloc (.cells #[] 61)) (.cells #[.string a1,.string a2] 61);rw [show ((w.drewN (q'+1)).alloc (.cells #[] 61)).heap.size=w.heap.size+1 by simp] at hq;have hp43:=(hg.block _ (blk_lt hq) (show some (w.heap.size+1)≠some w.heap.size by simp)).trans hq;clear hg hn hq))|((refine Kd.R_append_rows_step k61 (w0:=w) (Rr:=k61.K _) w.heap.size (by rfl) (.tmp 39) (.tmp 42) 25 61 (.agg #[(.string ⟨#[]⟩),(.string ⟨#[]⟩)]) 32 (by rfl) Tryz.underlying25 info61 rfl (by decide) (by decide) _ [] (l0.take l0.length) _ _ _ (fun _=>True) (fun _=>False) (by rfl) (by rfl) (R_empty (Nat.le_succ _) (by have hq:=heap_alloc_new ((w.drewN (q'+1)).alloc (.cells #[.string a1,.string a2] 61)) (.cells #[] 61);rw [show ((w.drewN (q'+1)).alloc (.cells #[.string a1,.string a2] 61)).heap.size=w.heap.size+1 by simp] at hq;exact hq)) (Kd.C_alloc (Kd.C_alloc (Kd.C_drewN HTK.out _) _) _) (fun x cs h=>by rw [k61_open h];exact k61_mkM _ _ _ x) (fun _ h=>h.elim) (fun _ _=>trivial) (δk (δk (δi (Below.refl _ _) _) _) _) ((δk (δk (δi (Below.refl _ _) _) _) _)).size (by simp only [List.length_nil];omega) ?_;intro v43 w43 ho43 hb43 hg hn;have hq:=δo (heap_alloc_new (w.drewN (q'+1)) (.cells #[.string a1,.string a2] 61)) (.cells #[] 61);have hp43:=(hg.block _ (blk_lt hq) (show some w.heap.size≠some (w.heap.size+1) by simp)).trans hq;clear hg hn hq))|((refine Kd.R_append_rows_step k61 (w0:=w) (Rr:=k61.K _) w.heap.size (by rfl) (.tmp 43) (.tmp 47) 25 61 (.agg #[(.string ⟨#[]⟩),(.string ⟨#[]⟩)]) 32 (by rfl) Tryz.underlying25 info61 rfl (by decide) (by decide) _ _ [⟨a1,a2⟩] _ _ _ (fun _=>True) (fun _=>False) (by rfl) (by rfl) (ζd ho43 _) (C_one (heap_alloc_new _ _)) (fun x cs h=>by rw [k61_open h];exact k61_mkM _ _ _ x) (fun _ h=>h.elim) (fun _ _=>trivial) (δk hb43 _) ((δk hb43 _)).size (by simp only [List.nil_append,δh];omega) ?_;intro v48 w48 ho48 hb48 hg hn;clear hg hn))|((refine Kd.R_append_rows_step k61 (w0:=w) (Rr:=k61.K _) w.heap.size (by rfl) (.tmp 43) (.tmp 47) 25 61 (.agg #[(.string ⟨#[]⟩),(.string ⟨#[]⟩)]) 32 (by rfl) Tryz.underlying25 info61 rfl (by decide) (by decide) _ _ [⟨a1,a2⟩] _ _ _ (fun _=>True) (fun _=>False) (by rfl) (by rfl) ho43 (C_one hp43) (fun x cs h=>by rw [k61_open h];exact k61_mkM _ _ _ x) (fun _ h=>h.elim) (fun _ _=>trivial) hb43 (hb43).size (by simp only [List.nil_append,δh];omega) ?_;intro v48 w48 ho48 hb48 hg hn;clear hg hn))|((refine Kd.R_append_rows_step k61 (w0:=w) (Rr:=k61.K _) w.heap.size (by rfl) (.tmp 48) (.tmp 51) 25 61 (.agg #[(.string ⟨#[]⟩),(.string ⟨#[]⟩)]) 32 (by rfl) Tryz.underlying25 info61 rfl (by decide) (by decide) _ _ [] _ _ _ (fun _=>True) (fun _=>False) (by rfl) (by rfl) ho48 (C_nilN (by rfl)) (fun x cs h=>by rw [k61_open h];exact k61_mkM _ _ _ x) (fun _ h=>h.elim) (fun _ _=>trivial) hb48 (hb48).size (by simp only [List.nil_append,List.length_append,δh,List.length_singleton];omega) ?_;intro v52 w52 ho52 hb52 hg hn;clear hg hn)))
  all_goals (rw [show [] ++ l0.take l0.length ++ [⟨a1,a2⟩] ++ []=l0 ++ [⟨a1,a2⟩] by simp] at ho52;have HO52:=ζa ho52;have HB52:=ζa hb52;clear ho52 hb52 ho48 hb48 ho43 hb43)
  all_goals go_wp2
  all_goals (go_ret2;exact ⟨_,rfl,⟨Or.inr HO52.out⟩,HB52.out⟩)
theorem spec_l03Put.calls (k:Nat) (A0:Option Addr) (c0:Nat) (l0:List S61) (a1 a2:ByteArray) (r1:List S61) (r2:Int) (w:World) (hr0:Kd.C k61 w A0 l0.length l0) (hc0:l0.length≤c0) (h:spec_l03Put.f k l0 a1 a2=some (r1,r2)) :
  Calls Tryz.prog 66 #[.slice A0 l0.length c0,.string a1,.string a2] w fun e w' => ∃ v0_:Value,e = .returned (.tuple #[v0_,.int .i64 r2])∧Sf w w' (.slice A0 l0.length c0) l0 v0_ r1∧Below w.heap.size w w':=by
 obtain ⟨t,h1,h⟩:=Option.bind_eq_some_iff.mp h
 by_cases hl:l0.length≤1000000
 ·
  rw [if_pos hl] at h
  by_cases g1:0≤t
  ·
   rw [if_pos g1] at h
   by_cases g0:t≤(l0.length:Int)
   ·
    rw [if_pos g0] at h
    obtain ⟨i,rfl⟩ : ∃ i:Nat,t=(i:Int):=⟨t.toNat,by omega⟩
    by_cases g2:(i:Int)<(l0.length:Int)∧((rd_T61 l0 (i:Int)).f0).toList=a1.toList
    ·
     rw [if_pos g2] at h
     simp only [Option.some.injEq,Prod.mk.injEq] at h
     obtain ⟨rfl,rfl⟩:=h
     obtain ⟨g2,g4⟩:=g2
     have H1:=ζa h1
     have HR0:=ζa hr0
     have HC0:=ζa hc0
     clear h1 hr0 hc0
     go_enter Tryz.func66,Tryz.ntmps66
     go_wp2_with fail
     refine (spec_l03At.calls k A0 c0 l0 a1 (i:Int) _ HR0.out HC0.out H1.out).mono ?_
     rintro e w1 ⟨rfl,⟨q',rfl⟩⟩
     obtain ⟨ad,e1,hx0,hx1⟩:=at_T61 HR0.out (i:Int) g1 g2
     simp only [Int.toNat_natCast] at hx0 hx1
     cases e1
     have g6:(((rd_T61 l0 (i:Int)).f0).toList == a1.toList)=τ:=beq_iff_eq.mpr g4
     have HX0:=ζa hx0
     clear g4
     go_wp2_with (first
      | ((with_reducible refine δx (N:=26) rfl ?_);refine Kd.R_lit k61 w.heap.size 61 ?hg (N:=26) ?hd (w0:=w) (xs:=([]:List S61)) (inner:=[]) (ok:=fun _=>True) (okp:=fun _=>True) ?hr ?hp (fun _ hk=>hk) trivial (by repeat (first|exact Below.refl _ _|apply δj|apply δi)) (by exact Nat.le_refl _) (by simp) ?_;(case hd=>rfl);(case hg=>rfl);(case hr=>first|(go_simp;done)|(go_simp;rfl));(case hp=>exact (Reps.none _ _));intro v26 w26 ho26 hb26 hg_ hnew_;clear hg_ hnew_;have HO:=ζa ho26;have HB:=ζa hb26;clear ho26 hb26)
      | ((with_reducible refine δx (N:=28) rfl ?_);refine Kd.R_append_rows (w0:=w) (Rr:=k61.K w26) k61 w.heap.size ?hg (.tmp 26) (.tmp 27) 25 61 (.agg #[(.string ⟨#[]⟩),(.string ⟨#[]⟩)]) 32 rfl Tryz.underlying25 info61 rfl (by decide) (by decide) v26 [] l0 (some ad) l0.length c0 (fun _=>True) (fun _=>False) rfl rfl HO.out (Kd.C_below HR0.out HB.out) (fun x cs h=>by rw [k61_open h];exact k61_mkM _ _ _ x) (fun _ h=>h.elim) (fun _ _=>trivial) HB.out HB.out.size (by simp only [List.length_nil];omega) ?_;(case hg=>rfl);intro v28 w28 ho28 hb28 hg_ hnew_;clear hg_ hnew_;obtain ⟨g,c,rfl,hwg⟩ : ∃ g c,v28 = .slice (some ⟨g,0,none⟩) l0.length c∧w.heap.size≤g:=(by obtain ⟨g,c,hv,hb,_⟩:=Kd.R_form ho28 (by simp only [List.nil_append];omega);exact ⟨g,c,hv,hb⟩);have HO28:Aside0 (Kd.R k61 61 w28 w.heap.size (fun _=>True) (.slice (some ⟨g,0,none⟩) l0.length c) l0):=⟨ho28⟩;have HB28:=ζa hb28;have HG:=ζa hwg;clear ho28 hb28 hwg;obtain ⟨ce,hcl,hM,hcc,hfr⟩:=Kd.R_elem HO28.out z61 (i:Int) g1 g2;obtain rfl:=k61_openM hM;have HP:=ζa (Kd.R_seg HO28.out (i:Int) g1 g2 (seg:=[.string a2]) (j:=1) hcl hcc (show 2≤2 from by decide) (x':=(⟨(rd_T61 l0 (i:Int)).f0,a2⟩:S61)) (k61_mkM _ _ _ (⟨(rd_T61 l0 (i:Int)).f0,a2⟩:S61)) (fun _ hk=>hk));have hy1:w28.cell? ⟨g,i * 2+1,none⟩=some (.string ((rd_T61 l0 (i:Int)).f1)):=hcc 1 _ rfl;have hf1:w28.frozen? ⟨g,i * 2+1,none⟩=φ:=hfr 1;clear hcl hcc hfr hM)
      | ((with_reducible refine gate_store (t:=9) (p:=33) rfl ?_);refine store_event (t:=9) (p:=33) (v:=?vo) (w1:=(w28.setCell ⟨g,i * 2+1,none⟩ (.string a2))) ?hg ?ho ?hn ?hr ?_;(case ho=>rfl);(case hg=>rfl);(case hn=>rfl);(case hr=>(go_simp;done));intro w3 hw;have HO3:Aside0 (Kd.R k61 61 w3 w.heap.size (fun _=>True) (.slice (some ⟨g,0,none⟩) l0.length c) (l0.set (i:Int).toNat ⟨(rd_T61 l0 (i:Int)).f0,a2⟩)):=⟨by rw [hw];exact HP.out.1⟩;have HB3:Aside0 (Below w.heap.size w w3):=⟨by rw [hw];exact δq HB28.out HG.out⟩;clear hw))
     go_wp2
     go_ret2
     exact ⟨_,rfl,⟨Or.inr HO3.out⟩,HB3.out⟩
    ·
     rw [if_neg g2] at h
     by_cases g3:(l0.length:Int)=400
     ·
      rw [if_pos g3] at h
      simp only [Option.some.injEq,Prod.mk.injEq] at h
      obtain ⟨rfl,rfl⟩:=h
      have H1:=ζa h1
      have HR0:=ζa hr0
      have HC0:=ζa hc0
      have HN:=ζa g2
      have c4:((l0.length:Int) == 400)=τ:=beq_iff_eq.mpr g3
      have c5:(l0.length == 400)=τ:=beq_iff_eq.mpr (by omega)
      have HB1:Aside0 (Below w.heap.size w w):=⟨Below.refl _ _⟩
      clear h1 hr0 hc0 g2 g3
      go_enter Tryz.func66,Tryz.ntmps66
      go_wp2_with fail
      refine (spec_l03At.calls k A0 c0 l0 a1 (i:Int) _ HR0.out HC0.out H1.out).mono ?_
      rintro e w1 ⟨rfl,⟨q',rfl⟩⟩
      by_cases g2:(i:Int)<(l0.length:Int)
      ·
       obtain ⟨ad,e1,hx0,hx1⟩:=at_T61 HR0.out (i:Int) g1 g2
       simp only [Int.toNat_natCast] at hx0 hx1
       cases e1
       have g6:(((rd_T61 l0 (i:Int)).f0).toList == a1.toList)=φ:=beq_eq_false_iff_ne.mpr (fun e=>HN.out ⟨g2,e⟩)
       go_wp2
       go_ret2
       exact ⟨_,rfl,⟨Or.inl ⟨rfl,rfl⟩⟩,by repeat (first|exact HB1.out|apply δi)⟩
      ·
       have g2b:decide ((i:Int)<(l0.length:Int))=φ:=decide_eq_false g2
       go_wp2
       go_ret2
       exact ⟨_,rfl,⟨Or.inl ⟨rfl,rfl⟩⟩,by repeat (first|exact HB1.out|apply δi)⟩
     ·
      rw [if_neg g3] at h
      simp only [Option.some.injEq,Prod.mk.injEq] at h
      obtain ⟨rfl,rfl⟩:=h
      exact spec_l03Put.miss k A0 c0 l0 a1 a2 i w hr0 hc0 h1 hl (by omega) (fun h5 e=>g2 ⟨h5,e⟩) g3
   · rw [if_neg g0] at h;cases h
  ·
   rw [if_neg g1] at h;cases h
 · rw [if_neg hl] at h;cases h


set_option maxHeartbeats 8000000
set_option maxRecDepth 100000

/-! ### spec_l01Consts: function 121 -/
def spec_l01Consts.f  : Option (List Int):=some (([1116352408,1899447441,3049323471,3921009573,961987163,1508970993,2453635748,2870763221,3624381080,310598401,607225278,1426881987,1925078388,2162078206,2614888103,3248222580,3835390401,4022224774,264347078,604807628,770255983,1249150122,1555081692,1996064986,2554220882,2821834349,2952996808,3210313671,3336571891,3584528711,113926993,338241895,666307205,773529912,1294757372,1396182291,1695183700,1986661051,2177026350,2456956037,2730485921,2820302411,3259730800,3345764771,3516065817,3600352804,4094571909,275423344,430227734,506948616,659060556,883997877,958139571,1322822218,1537002063,1747873779,1955562222,2024104815,2227730452,2361852424,2428436474,2756734187,3204031479,3329325298]:List Int))
theorem spec_l01Consts.calls  (r:List Int) (w:World) (h:spec_l01Consts.f  = some r) :
  Calls Tryz.prog 121 #[] w fun e w' => ∃ v0_:Value,e = .returned (v0_)∧Kd.R (Kd.int .u32) 112 w' w.heap.size (fun _=>True) v0_ r∧Below w.heap.size w w':=by
 have HB:=ζa (Below.refl w.heap.size w)
 have H:(some (([1116352408,1899447441,3049323471,3921009573,961987163,1508970993,2453635748,2870763221,3624381080,310598401,607225278,1426881987,1925078388,2162078206,2614888103,3248222580,3835390401,4022224774,264347078,604807628,770255983,1249150122,1555081692,1996064986,2554220882,2821834349,2952996808,3210313671,3336571891,3584528711,113926993,338241895,666307205,773529912,1294757372,1396182291,1695183700,1986661051,2177026350,2456956037,2730485921,2820302411,3259730800,3345764771,3516065817,3600352804,4094571909,275423344,430227734,506948616,659060556,883997877,958139571,1322822218,1537002063,1747873779,1955562222,2024104815,2227730452,2361852424,2428436474,2756734187,3204031479,3329325298]:List Int)))=some r:=h
 clear h
 obtain ⟨y207,hy207⟩ : ∃ y_:List Int,y_=(([1116352408,1899447441,3049323471,3921009573,961987163,1508970993,2453635748,2870763221,3624381080,310598401,607225278,1426881987,1925078388,2162078206,2614888103,3248222580,3835390401,4022224774,264347078,604807628,770255983,1249150122,1555081692,1996064986,2554220882,2821834349,2952996808,3210313671,3336571891,3584528711,113926993,338241895,666307205,773529912,1294757372,1396182291,1695183700,1986661051,2177026350,2456956037,2730485921,2820302411,3259730800,3345764771,3516065817,3600352804,4094571909,275423344,430227734,506948616,659060556,883997877,958139571,1322822218,1537002063,1747873779,1955562222,2024104815,2227730452,2361852424,2428436474,2756734187,3204031479,3329325298]:List Int)):=⟨_,rfl⟩
 replace H:(some y207)=some r:=by (rw [hy207];with_reducible exact H)
 have Ny207:=ζa hy207
 clear hy207
 obtain rfl:=Option.some.inj H
 go_enter Tryz.func121,Tryz.ntmps121
 go_wp2_with (((with_reducible refine δx (N:=1) rfl ?_);refine Kd.R_lit (Kd.int .u32) _ 112 ?hg (N:=1) ?hd (xs:=([1116352408,1899447441,3049323471,3921009573,961987163,1508970993,2453635748,2870763221,3624381080,310598401,607225278,1426881987,1925078388,2162078206,2614888103,3248222580,3835390401,4022224774,264347078,604807628,770255983,1249150122,1555081692,1996064986,2554220882,2821834349,2952996808,3210313671,3336571891,3584528711,113926993,338241895,666307205,773529912,1294757372,1396182291,1695183700,1986661051,2177026350,2456956037,2730485921,2820302411,3259730800,3345764771,3516065817,3600352804,4094571909,275423344,430227734,506948616,659060556,883997877,958139571,1322822218,1537002063,1747873779,1955562222,2024104815,2227730452,2361852424,2428436474,2756734187,3204031479,3329325298]:List Int)) (inner:=[.int .u32 1116352408,.int .u32 1899447441,.int .u32 3049323471,.int .u32 3921009573,.int .u32 961987163,.int .u32 1508970993,.int .u32 2453635748,.int .u32 2870763221,.int .u32 3624381080,.int .u32 310598401,.int .u32 607225278,.int .u32 1426881987,.int .u32 1925078388,.int .u32 2162078206,.int .u32 2614888103,.int .u32 3248222580,.int .u32 3835390401,.int .u32 4022224774,.int .u32 264347078,.int .u32 604807628,.int .u32 770255983,.int .u32 1249150122,.int .u32 1555081692,.int .u32 1996064986,.int .u32 2554220882,.int .u32 2821834349,.int .u32 2952996808,.int .u32 3210313671,.int .u32 3336571891,.int .u32 3584528711,.int .u32 113926993,.int .u32 338241895,.int .u32 666307205,.int .u32 773529912,.int .u32 1294757372,.int .u32 1396182291,.int .u32 1695183700,.int .u32 1986661051,.int .u32 2177026350,.int .u32 2456956037,.int .u32 2730485921,.int .u32 2820302411,.int .u32 3259730800,.int .u32 3345764771,.int .u32 3516065817,.int .u32 3600352804,.int .u32 4094571909,.int .u32 275423344,.int .u32 430227734,.int .u32 506948616,.int .u32 659060556,.int .u32 883997877,.int .u32 958139571,.int .u32 1322822218,.int .u32 1537002063,.int .u32 1747873779,.int .u32 1955562222,.int .u32 2024104815,.int .u32 2227730452,.int .u32 2361852424,.int .u32 2428436474,.int .u32 2756734187,.int .u32 3204031479,.int .u32 3329325298]) (ok:=fun _=>True) (okp:=fun _=>True) ?hr ?hp (fun _ hk=>hk) trivial (Below.refl _ _) (Nat.le_refl _) (by simp) ?_;(case hd=>rfl);(case hg=>rfl);(case hr=>(go_simp;done));(case hp=>exact (Reps.one (show Kd.M (Kd.int .u32) _ _ _ 1116352408 [.int .u32 1116352408] from rfl) (Reps.one (show Kd.M (Kd.int .u32) _ _ _ 1899447441 [.int .u32 1899447441] from rfl) (Reps.one (show Kd.M (Kd.int .u32) _ _ _ 3049323471 [.int .u32 3049323471] from rfl) (Reps.one (show Kd.M (Kd.int .u32) _ _ _ 3921009573 [.int .u32 3921009573] from rfl) (Reps.one (show Kd.M (Kd.int .u32) _ _ _ 961987163 [.int .u32 961987163] from rfl) (Reps.one (show Kd.M (Kd.int .u32) _ _ _ 1508970993 [.int .u32 1508970993] from rfl) (Reps.one (show Kd.M (Kd.int .u32) _ _ _ 2453635748 [.int .u32 2453635748] from rfl) (Reps.one (show Kd.M (Kd.int .u32) _ _ _ 2870763221 [.int .u32 2870763221] from rfl) (Reps.one (show Kd.M (Kd.int .u32) _ _ _ 3624381080 [.int .u32 3624381080] from rfl) (Reps.one (show Kd.M (Kd.int .u32) _ _ _ 310598401 [.int .u32 310598401] from rfl) (Reps.one (show Kd.M (Kd.int .u32) _ _ _ 607225278 [.int .u32 607225278] from rfl) (Reps.one (show Kd.M (Kd.int .u32) _ _ _ 1426881987 [.int .u32 1426881987] from rfl) (Reps.one (show Kd.M (Kd.int .u32) _ _ _ 1925078388 [.int .u32 1925078388] from rfl) (Reps.one (show Kd.M (Kd.int .u32) _ _ _ 2162078206 [.int .u32 2162078206] from rfl) (Reps.one (show Kd.M (Kd.int .u32) _ _ _ 2614888103 [.int .u32 2614888103] from rfl) (Reps.one (show Kd.M (Kd.int .u32) _ _ _ 3248222580 [.int .u32 3248222580] from rfl) (Reps.one (show Kd.M (Kd.int .u32) _ _ _ 3835390401 [.int .u32 3835390401] from rfl) (Reps.one (show Kd.M (Kd.int .u32) _ _ _ 4022224774 [.int .u32 4022224774] from rfl) (Reps.one (show Kd.M (Kd.int .u32) _ _ _ 264347078 [.int .u32 264347078] from rfl) (Reps.one (show Kd.M (Kd.int .u32) _ _ _ 604807628 [.int .u32 604807628] from rfl) (Reps.one (show Kd.M (Kd.int .u32) _ _ _ 770255983 [.int .u32 770255983] from rfl) (Reps.one (show Kd.M (Kd.int .u32) _ _ _ 1249150122 [.int .u32 1249150122] from rfl) (Reps.one (show Kd.M (Kd.int .u32) _ _ _ 1555081692 [.int .u32 1555081692] from rfl) (Reps.one (show Kd.M (Kd.int .u32) _ _ _ 1996064986 [.int .u32 1996064986] from rfl) (Reps.one (show Kd.M (Kd.int .u32) _ _ _ 2554220882 [.int .u32 2554220882] from rfl) (Reps.one (show Kd.M (Kd.int .u32) _ _ _ 2821834349 [.int .u32 2821834349] from rfl) (Reps.one (show Kd.M (Kd.int .u32) _ _ _ 2952996808 [.int .u32 2952996808] from rfl) (Reps.one (show Kd.M (Kd.int .u32) _ _ _ 3210313671 [.int .u32 3210313671] from rfl) (Reps.one (show Kd.M (Kd.int .u32) _ _ _ 3336571891 [.int .u32 3336571891] from rfl) (Reps.one (show Kd.M (Kd.int .u32) _ _ _ 3584528711 [.int .u32 3584528711] from rfl) (Reps.one (show Kd.M (Kd.int .u32) _ _ _ 113926993 [.int .u32 113926993] from rfl) (Reps.one (show Kd.M (Kd.int .u32) _ _ _ 338241895 [.int .u32 338241895] from rfl) (Reps.one (show Kd.M (Kd.int .u32) _ _ _ 666307205 [.int .u32 666307205] from rfl) (Reps.one (show Kd.M (Kd.int .u32) _ _ _ 773529912 [.int .u32 773529912] from rfl) (Reps.one (show Kd.M (Kd.int .u32) _ _ _ 1294757372 [.int .u32 1294757372] from rfl) (Reps.one (show Kd.M (Kd.int .u32) _ _ _ 1396182291 [.int .u32 1396182291] from rfl) (Reps.one (show Kd.M (Kd.int .u32) _ _ _ 1695183700 [.int .u32 1695183700] from rfl) (Reps.one (show Kd.M (Kd.int .u32) _ _ _ 1986661051 [.int .u32 1986661051] from rfl) (Reps.one (show Kd.M (Kd.int .u32) _ _ _ 2177026350 [.int .u32 2177026350] from rfl) (Reps.one (show Kd.M (Kd.int .u32) _ _ _ 2456956037 [.int .u32 2456956037] from rfl) (Reps.one (show Kd.M (Kd.int .u32) _ _ _ 2730485921 [.int .u32 2730485921] from rfl) (Reps.one (show Kd.M (Kd.int .u32) _ _ _ 2820302411 [.int .u32 2820302411] from rfl) (Reps.one (show Kd.M (Kd.int .u32) _ _ _ 3259730800 [.int .u32 3259730800] from rfl) (Reps.one (show Kd.M (Kd.int .u32) _ _ _ 3345764771 [.int .u32 3345764771] from rfl) (Reps.one (show Kd.M (Kd.int .u32) _ _ _ 3516065817 [.int .u32 3516065817] from rfl) (Reps.one (show Kd.M (Kd.int .u32) _ _ _ 3600352804 [.int .u32 3600352804] from rfl) (Reps.one (show Kd.M (Kd.int .u32) _ _ _ 4094571909 [.int .u32 4094571909] from rfl) (Reps.one (show Kd.M (Kd.int .u32) _ _ _ 275423344 [.int .u32 275423344] from rfl) (Reps.one (show Kd.M (Kd.int .u32) _ _ _ 430227734 [.int .u32 430227734] from rfl) (Reps.one (show Kd.M (Kd.int .u32) _ _ _ 506948616 [.int .u32 506948616] from rfl) (Reps.one (show Kd.M (Kd.int .u32) _ _ _ 659060556 [.int .u32 659060556] from rfl) (Reps.one (show Kd.M (Kd.int .u32) _ _ _ 883997877 [.int .u32 883997877] from rfl) (Reps.one (show Kd.M (Kd.int .u32) _ _ _ 958139571 [.int .u32 958139571] from rfl) (Reps.one (show Kd.M (Kd.int .u32) _ _ _ 1322822218 [.int .u32 1322822218] from rfl) (Reps.one (show Kd.M (Kd.int .u32) _ _ _ 1537002063 [.int .u32 1537002063] from rfl) (Reps.one (show Kd.M (Kd.int .u32) _ _ _ 1747873779 [.int .u32 1747873779] from rfl) (Reps.one (show Kd.M (Kd.int .u32) _ _ _ 1955562222 [.int .u32 1955562222] from rfl) (Reps.one (show Kd.M (Kd.int .u32) _ _ _ 2024104815 [.int .u32 2024104815] from rfl) (Reps.one (show Kd.M (Kd.int .u32) _ _ _ 2227730452 [.int .u32 2227730452] from rfl) (Reps.one (show Kd.M (Kd.int .u32) _ _ _ 2361852424 [.int .u32 2361852424] from rfl) (Reps.one (show Kd.M (Kd.int .u32) _ _ _ 2428436474 [.int .u32 2428436474] from rfl) (Reps.one (show Kd.M (Kd.int .u32) _ _ _ 2756734187 [.int .u32 2756734187] from rfl) (Reps.one (show Kd.M (Kd.int .u32) _ _ _ 3204031479 [.int .u32 3204031479] from rfl) (Reps.one (show Kd.M (Kd.int .u32) _ _ _ 3329325298 [.int .u32 3329325298] from rfl) (Reps.none _ _))))))))))))))))))))))))))))))))))))))))))))))))))))))))))))))))));intro v208 w1 ho2 hb hg_ hnew_;clear hg_ hnew_;(rw [← Ny207.out] at ho2);have HO209:=ζa (Kd.R_lower ho2 (δs (by exact HB.out)));replace HB:=ζa (δr (by exact HB.out) hb);clear hb ho2))
 go_ret
 exact ⟨_,by rfl,by exact HO209.out,by repeat ((with_reducible exact HB.out))⟩


set_option maxHeartbeats 8000000
set_option maxRecDepth 100000

/-! ### spec_l01Turn: function 147 -/
def spec_l01Turn.f (a0:Int) (a1:Int):Option (Int):=if 0≤a1 then (if 0≤(IntKind.u64.wrap (32 - a1)) then (some (Go.bits .or .u32 (shr .u32 a0 a1) (shl .u32 a0 (IntKind.u64.wrap (32 - a1))))) else (none)) else (none)
theorem spec_l01Turn.calls (a0:Int) (a1:Int) (r:Int) (w:World) (h:spec_l01Turn.f a0 a1=some r) :
  Calls Tryz.prog 147 #[.int .u32 a0,.int .u64 a1] w fun e w'=>e = .returned (.int .u32 r)∧Drawn0 w w':=by
 have H:(if 0≤a1 then (if 0≤(IntKind.u64.wrap (32 - a1)) then (some (Go.bits .or .u32 (shr .u32 a0 a1) (shl .u32 a0 (IntKind.u64.wrap (32 - a1))))) else (none)) else (none))=some r:=h
 clear h
 by_cases c3:0≤a1
 ·
  rw [if_pos c3] at H
  have c3b0:=eq_true c3
  have c3b1:=decide_eq_true c3
  clear c3
  obtain ⟨ji4,hji4⟩ : ∃ j_:Int,(shr .u32 a0 a1)=j_:=⟨_,rfl⟩
  replace H:(if 0≤(IntKind.u64.wrap (32 - a1)) then (some (Go.bits .or .u32 (ji4) (shl .u32 a0 (IntKind.u64.wrap (32 - a1))))) else (none))=some r:=by (rw [hji4] at H;exact H)
  have hji4_:(a0 / 2 ^ min a1.toNat 32)=ji4:=hji4
  have hji4z:a1≤32→(a0 / 2 ^ a1.toNat)=ji4:=shr_small hji4
  obtain ⟨ji5,hji5⟩ : ∃ j_:Int,(IntKind.u64.wrap (32 - a1))=j_:=⟨_,rfl⟩
  replace H:(if 0≤(ji5) then (some (Go.bits .or .u32 (ji4) (shl .u32 a0 (ji5)))) else (none))=some r:=by (rw [hji5] at H;exact H)
  by_cases c6:0≤(ji5)
  ·
   rw [if_pos c6] at H
   have c6b0:=eq_true c6
   have c6b1:=decide_eq_true c6
   clear c6
   obtain ⟨ji7,hji7⟩ : ∃ j_:Int,(shl .u32 a0 (ji5))=j_:=⟨_,rfl⟩
   replace H:(some (Go.bits .or .u32 (ji4) (ji7)))=some r:=by (rw [hji7] at H;exact H)
   have hji7_:(IntKind.u32.wrap (a0 * 2 ^ min (ji5).toNat 32))=ji7:=hji7
   have hji7z:(ji5)≤32→(IntKind.u32.wrap (a0 * 2 ^ (ji5).toNat))=ji7:=shl_small hji7
   obtain rfl:=Option.some.inj H
   go_enter Tryz.func147,Tryz.ntmps147
   go_wp2
   go_ret
   exact ⟨by rfl,by repeat (exact Drawn0.refl _)⟩
  ·
   rw [if_neg c6] at H
   exact absurd H (by simp)
 ·
  rw [if_neg c3] at H
  exact absurd H (by simp)


open Go.Proofs.YtggemblkhckbpaaGreatDoorW.PrintWords renaming below_alloc → δk, gate_dst → δx, below_size → δs, below_step → δr, blk_drew → δp, below_drew1 → δj, blk_cell → δl, blk_frozen → δm, blk_put → δw, below_set → δq, blk_drewN → δn, pw_below_drewN → δi, cell_far → δt, add_block → δu
open Go.Proofs.YtggemblkhckbpaaGreatDoorW.PrintWords.Kd renaming R_reads' → ζg
set_option maxHeartbeats 8000000
set_option maxRecDepth 100000


/-! ### spec_l01Block: function 122 -/
def sturnV (x n:Int):Int:=Go.bits .or .u32 (shr .u32 x n) (shl .u32 x (32 - n))
theorem sturn_at (x n:Int) (hn:n=2 ∨ n=6 ∨ n=7 ∨ n=11 ∨ n=13 ∨ n=17 ∨ n=18 ∨ n=19 ∨ n=22 ∨ n=25):spec_l01Turn.f x n=some (sturnV x n):=by
 unfold spec_l01Turn.f sturnV
 have key : ∀ n:Int,0≤n→IntKind.u64.wrap (32 - n)=32 - n→0≤32 - n→(if 0≤n then (if 0≤(IntKind.u64.wrap (32 - n)) then (some (Go.bits .or .u32 (shr .u32 x n) (shl .u32 x (IntKind.u64.wrap (32 - n))))) else (none)) else (none):Option Int)=some (Go.bits .or .u32 (shr .u32 x n) (shl .u32 x (32 - n))):=by
  intro n h1 h2 h3
  rw [if_pos h1,h2,if_pos h3]
 rcases hn with rfl|rfl|rfl|rfl|rfl|rfl|rfl|rfl|rfl|rfl <;> exact key _ (by decide) (by kernel_rfl) (by decide)
theorem off_zero {g j:Nat} : (⟨g,0,none⟩:Addr).add j=⟨g,j,none⟩:=by unfold Addr.add;split <;> simp_all
def spec_l01Block.wd (B:List Int) (j:Int):Int:=Go.bits .or .u32 (Go.bits .or .u32 (Go.bits .or .u32 (rd B j % 4294967296 * 16777216 % 4294967296) (rd B (j+1) % 4294967296 * 65536 % 4294967296)) (rd B (j+2) % 4294967296 * 256 % 4294967296)) (rd B (j+3) % 4294967296)
def spec_l01Block.sg (x:Int) (a b c:Int):Int:=Go.bits .xor .u32 (Go.bits .xor .u32 (sturnV x a) (sturnV x b)) (x / c)
def spec_l01Block.at (B:List Int) (L:List Int) (i:Nat):Int:=if i<16 then spec_l01Block.wd B (4 * (i:Int)) else (((rd L ((i:Int) - 16)+spec_l01Block.sg (rd L ((i:Int) - 15)) 7 18 8) % 4294967296+rd L ((i:Int) - 7)) % 4294967296+spec_l01Block.sg (rd L ((i:Int) - 2)) 17 19 1024) % 4294967296
def spec_l01Block.upto (B:List Int):Nat→List Int
 | 0=>List.replicate 64 0
 | i+1=>(spec_l01Block.upto B i).set i (spec_l01Block.at B (spec_l01Block.upto B i) i)
theorem spec_l01Block.upto_len (B:List Int) : ∀ i,(spec_l01Block.upto B i).length=64
 | 0=>rfl
 | i+1=>by unfold spec_l01Block.upto;rw [List.length_set];exact spec_l01Block.upto_len B i
/-- A literal,as a step of a region that draws. -/
theorem lit_step {Pg:Program} {ops:Array Oper} {o:Oper} {a:Act} {Q:Exit→Act→World→Prop} {Kc:Act→World→Prop} {W:World} {n:Nat} (hw:Region.wanted o (yielded ops a.tmps)=τ) {N:Tmp} (_hd:o.dst=some N) {cs:Array Value} {t:TypeId}
  (hrun:(execOp a.eval o).run Pg W = .ok (.value (.slice (some ⟨W.heap.size,0,none⟩) n n)) (W.alloc (.cells cs t (0,0))))
  (h : ∀ g,g=W.heap.size → ∀ w1,w1.heap[g]? = some (.cells cs t (0,0))→Below W.heap.size W w1→Kc (a.put o.dst (.slice (some ⟨g,0,none⟩) n n)) w1):if Region.wanted o (yielded ops a.tmps)=τ then Oper.wp Pg o a W Kc Q else Kc (a.put o.dst undef) W :=
 event_step hw hrun (h _ rfl _ (blk_new W _) (δk (Below.refl _ _) _))
theorem lit_event1 {Pg:Program} {ops:Array Oper} {Q:Exit→Act→World→Prop} {rest:List Oper} {op:Oper} {a:Act} {W:World} {n:Nat} (hgd:op.guard=none) {N:Tmp} (_hd:op.dst=some N) {cs:Array Value} {t:TypeId}
  (hrun:(execOp a.eval op).run Pg W = .ok (.value (.slice (some ⟨W.heap.size,0,none⟩) n n)) (W.alloc (.cells cs t (0,0))))
  (h : ∀ g,g=W.heap.size → ∀ w1,w1.heap[g]? = some (.cells cs t (0,0))→Below W.heap.size W w1→wpList Pg ops Q rest (a.put op.dst (.slice (some ⟨g,0,none⟩) n n)) w1):wpList Pg ops Q (op :: rest) a W :=
 Kd.event_run hgd hrun (h _ rfl _ (blk_new W _) (δk (Below.refl _ _) _))
def spec_l01Block.p5 (KK W v:List Int) (i:Nat):Int:=rd v 7+Go.bits .xor .u32 (Go.bits .xor .u32 (sturnV (rd v 4) 6) (sturnV (rd v 4) 11)) (sturnV (rd v 4) 25)+Go.bits .xor .u32 (Go.bits .and .u32 (rd v 4) (rd v 5)) (Go.bits .and .u32 (Go.bits .xor .u32 IntKind.u32.max (rd v 4)) (rd v 6))+rd KK (i:Int)+rd W (i:Int)
def spec_l01Block.q5 (v:List Int):Int:=Go.bits .xor .u32 (Go.bits .xor .u32 (sturnV (rd v 0) 2) (sturnV (rd v 0) 13)) (sturnV (rd v 0) 22)+Go.bits .xor .u32 (Go.bits .xor .u32 (Go.bits .and .u32 (rd v 0) (rd v 1)) (Go.bits .and .u32 (rd v 0) (rd v 2))) (Go.bits .and .u32 (rd v 1) (rd v 2))
def spec_l01Block.step (KK W v:List Int) (i:Nat):List Int:=[(spec_l01Block.p5 KK W v i % 4294967296+spec_l01Block.q5 v % 4294967296) % 4294967296,rd v 0,rd v 1,rd v 2,(rd v 3+spec_l01Block.p5 KK W v i % 4294967296) % 4294967296,rd v 4,rd v 5,rd v 6]
def spec_l01Block.rounds (KK W v0:List Int):Nat→List Int
 | 0=>v0
 | i+1=>spec_l01Block.step KK W (spec_l01Block.rounds KK W v0 i) i
def spec_l01Block.v (H B KK:List Int):List Int:=impl_blockHash.adds H (spec_l01Block.rounds KK (spec_l01Block.upto B 64) H 64) 8
theorem spec_l01Block.rounds_len (KK W v0:List Int) (h:v0.length=8) : ∀ i,(spec_l01Block.rounds KK W v0 i).length=8
 | 0=>h
 | i+1=>rfl
def spec_l01Block.T4:Bool × List (List Nat × List Nat):=(τ,[([],[]),([],[]),([],[]),([],[]),([3],[3]),([2,4],[2,4]),([5],[5]),([6],[6]),([7],[7]),([],[]),([],[]),([10],[10]),([11],[11]),([9,12],[9,12]),([13],[13]),([14],[14]),([15],[15]),([8,16],[8,16]),([],[]),([],[]),([19],[19]),([20],[20]),([18,21],[18,21]),([22],[22]),([23],[23]),([24],[24]),([17,25],[17,25]),([],[]),([],[]),([28],[28]),([29],[29]),([27,30],[27,30]),([31],[31]),([32],[32]),([26,33],[26,33]),([0,1,0,1,2,3,4,5,6,7,8,9,10,11,12,13,14,15,16,17,18,19,20,21,22,23,24,25,26,27,28,29,30,31,32,33,34],[0,1]),([35,34,0,1,2,3,4,5,6,7,8,9,10,11,12,13,14,15,16,17,18,19,20,21,22,23,24,25,26,27,28,29,30,31,32,33,34],[34,35])])
def spec_l01Block.B4:List Nat:=[0,0,0,0,8,28,60,124,252,0,0,1024,3072,7680,15872,32256,65024,131068,0,0,524288,1572864,3932160,8126464,16515072,33292288,67108860,0,0,268435456,805306368,2013265920,4160749568,8455716864,17179869180,34359738367,68719476735]
theorem spec_l01Block.tab4:rtab .any (opsOf Tryz.f122 4)=spec_l01Block.T4:=by kernel_rfl
theorem spec_l01Block.bits4:waitsOk spec_l01Block.T4.2 spec_l01Block.B4=τ:=by kernel_rfl
def spec_l01Block.T10:Bool × List (List Nat × List Nat):=(τ,[([],[]),([],[]),([],[]),([],[]),([3],[3]),([2,4],[2,4]),([5],[5]),([],[]),([7],[7]),([],[]),([9,8],[9]),([8,10],[8,10]),([],[]),([12],[12]),([11,13],[11,13]),([6,14],[6,14]),([],[]),([],[]),([17],[17]),([16,18],[16,18]),([19],[19]),([15,20],[15,20]),([],[]),([22,10],[22]),([],[]),([24,23],[24]),([23,25],[23,25]),([],[]),([27],[27]),([26,28],[26,28]),([21,29],[21,29]),([0,1,0,1,2,3,4,5,6,7,8,9,10,11,12,13,14,15,16,17,18,19,20,21,22,23,24,25,26,27,28,29,30],[0,1]),([31,30,25,0,1,2,3,4,5,6,7,8,9,10,11,12,13,14,15,16,17,18,19,20,21,22,23,24,25,26,27,28,29,30],[30,31])])
def spec_l01Block.B10:List Nat:=[0,0,0,0,8,28,60,0,128,0,896,1920,0,4096,16256,32764,0,0,131072,458752,983040,2097148,0,4196224,0,29362048,62916480,0,134217728,532678528,1073741820,2147483647,4294967295]
theorem spec_l01Block.tab10:rtab .any (opsOf Tryz.f122 10)=spec_l01Block.T10:=by kernel_rfl
theorem spec_l01Block.bits10:waitsOk spec_l01Block.T10.2 spec_l01Block.B10=τ:=by kernel_rfl
def spec_l01Block.T19:Bool × List (List Nat × List Nat):=(τ,[([],[]),([],[]),([0,1],[0,1]),([],[]),([3],[3]),([4],[4]),([],[]),([6],[6]),([7],[7]),([],[]),([9],[9]),([10],[10]),([],[]),([12],[12]),([13],[13]),([],[]),([14,15],[14,15]),([],[]),([17],[17]),([18],[18]),([],[]),([20],[20]),([21],[21]),([],[]),([23],[23]),([24],[24]),([2,5,8,11,16,19,22,25],[2,5,8,11,16,19,22,25]),([26,0,1,2,3,4,5,6,7,8,9,10,11,12,13,14,15,16,17,18,19,20,21,22,23,24,25,26],[3,6,9,12,17,20,23,26])])
def spec_l01Block.B19:List Nat:=[0,0,3,0,8,24,0,64,192,0,512,1536,0,4096,12288,0,61440,0,131072,393216,0,1048576,3145728,0,8388608,25165824,67108863,134217727]
theorem spec_l01Block.tab19:rtab .any (opsOf Tryz.f122 19)=spec_l01Block.T19:=by kernel_rfl
theorem spec_l01Block.bits19:waitsOk spec_l01Block.T19.2 spec_l01Block.B19=τ:=by kernel_rfl
def spec_l01Block.T23:Bool × List (List Nat × List Nat):=(τ,[([],[]),([],[]),([0,1],[0,1]),([2],[2]),([],[]),([],[]),([4,5],[4,5]),([6],[6]),([3,7],[3,7]),([0,1,0,1,2,3,4,5,6,7,8],[0,1]),([9,8,0,1,2,3,4,5,6,7,8],[8,9])])
def spec_l01Block.B23:List Nat:=[0,0,3,7,0,0,48,112,255,511,1023]
theorem spec_l01Block.tab23:rtab .any (opsOf Tryz.f122 23)=spec_l01Block.T23:=by kernel_rfl
theorem spec_l01Block.bits23:waitsOk spec_l01Block.T23.2 spec_l01Block.B23=τ:=by kernel_rfl
theorem spec_l01Block.run (gh cb ck:Nat) (adb adk:Addr) (H B KK:List Int) (w0 w:World) (hH:w.heap[gh]? = some (.cells ((H.map (Value.int .u32)).toArray) 112 (0,0))) (lH:H.length=8) (hBc : ∀ j:Nat,j<64→w.cell? (adb.add j)=some (.int .u8 (rd B (j:Int)))) (hKc : ∀ j:Nat,j<64→w.cell? (adk.add j)=some (.int .u32 (rd KK (j:Int)))) (hB0:Below w0.heap.size w0 w) (hgh:w0.heap.size≤gh) :
  Calls Tryz.prog 122 #[.slice (some ⟨gh,0,none⟩) 8 8,.slice (some adb) 64 cb,.slice (some adk) 64 ck] w fun e w'=>e = .returned (.tuple #[])∧w'.heap[gh]? = some (.cells (((spec_l01Block.v H B KK).map (Value.int .u32)).toArray) 112 (0,0))∧Below w0.heap.size w0 w'∧(∀ g,g<w.heap.size→g≠gh→w'.heap[g]? = w.heap[g]?)∧w.heap.size≤w'.heap.size:=by
 have hu48:=Tryz.underlying118
 have hu22:=Tryz.underlying22
 have hu36:=Tryz.underlying112
 have HB:=ζa (Below.refl w.heap.size w)
 have BH:=ζa hH
 have LH:=ζa lH
 have hBc:=ζa hBc
 have hKc:=ζa hKc
 have HB0:=ζa hB0
 have HGH:=ζa hgh
 clear hH lH hB0 hgh
 have mk : ∀ W:World,(Instr.makeSlice 118 (.int .i64 64) (.int .i64 64)).run Tryz.prog W = .ok (.slice (some ⟨W.heap.size,0,none⟩) 64 64) (W.alloc (.cells (((List.replicate 64 (0:Int)).map (Value.int .u32)).toArray) 112 (0,0))):=fun W=>by
  have hi:=info112
  cases hq:Tryz.prog.info? 112 with
  | none=>rw [hq] at hi;cases hi
  | some ti =>
   rw [hq] at hi
   have h3:=Option.some.inj hi
   have hz:ti.zero=some (.int .u32 0):=congrArg (fun x=>x.1) h3
   have hs:ti.size=1:=congrArg (fun x=>x.2.1) h3
   have hb:ti.bytes=4:=congrArg (fun x=>x.2.2) h3
   have e:=run_make (P:=Tryz.prog) W 118 112 ti (.int .u32 0) hu48 hq hz .i64 .i64 64 64 (by decide) (by decide) (by rw [hb];decide) (by decide)
   have hm:madeCells (Value.int IntKind.u32 0).cells (Int.toNat 64 * 1)=(((List.replicate 64 (0:Int)).map (Value.int .u32)).toArray):=by kernel_rfl
   rw [hs,hm] at e
   exact e
 go_enter Tryz.func122,Tryz.ntmps122
 go_wp2_with (first
  | ((with_reducible refine δx (N:=18) rfl ?_);refine lit_event1 ?hg (n:=64) (N:=18) ?hd (cs:=(((List.replicate 64 (0:Int)).map (Value.int .u32)).toArray)) (t:=112) ?hr ?_;(case hd=>rfl);(case hg=>rfl);(case hr=>first|(go_simp;done)|(go_simp;rfl));intro gw hgw w_ hbox hb;have GW:=ζa ((by rw [hgw];exact δs HB.out):w.heap.size≤gw);have n0_:=ζa (δr HB.out hb);clear HB;have HB:=n0_;have Bw:=ζa hbox;clear n0_ hb hbox hgw))
 go_wp2
 go_loopg [7] 16 (fun kq v7 w' => ∃ i:Nat,v7 = .int .i64 (i:Int)∧Aside0 (i+kq=16)∧Aside0 (w'.heap[gw]? = some (.cells (((spec_l01Block.upto B i).map (Value.int .u32)).toArray) 112 (0,0)))∧Aside0 (Below w.heap.size w w'))
 case atStart=>exact ⟨0,rfl,⟨rfl⟩,Bw,HB⟩
 case round =>
  clear Bw HB
  obtain ⟨i,rfl,HI,Bw,HB⟩:=hrel
  cases gk with
  | succ k1 =>
   have hi:=HI.out
   have hi16:(i:Int)<16:=by omega
   have c16:decide ((i:Int)<16)=τ:=decide_eq_true hi16
   have x16:((i:Int)<16)=True:=eq_true hi16
   have x64:((i:Int)<64)=True:=eq_true (by omega)
   have z0:(0≤(i:Int))=True:=eq_true (by omega)
   have INC:=ζa (show ζm ((i:Int)+1)=((i+1:Nat):Int) by rw [IntWalk.wrap64_in _ ⟨by omega,by omega⟩];rfl)
   have w0_:ζm (4 * (i:Int))=((4 * i:Nat):Int):=by rw [IntWalk.wrap64_in _ ⟨by omega,by omega⟩];omega
   have w1_:ζm (((4 * i:Nat):Int)+1)=((4 * i+1:Nat):Int):=by rw [IntWalk.wrap64_in _ ⟨by omega,by omega⟩];omega
   have w2_:ζm (((4 * i:Nat):Int)+2)=((4 * i+2:Nat):Int):=by rw [IntWalk.wrap64_in _ ⟨by omega,by omega⟩];omega
   have w3_:ζm (((4 * i:Nat):Int)+3)=((4 * i+3:Nat):Int):=by rw [IntWalk.wrap64_in _ ⟨by omega,by omega⟩];omega
   obtain ⟨m0,hm0⟩ : ∃ m:Nat,m=4 * i:=⟨_,rfl⟩
   obtain ⟨m1,hm1⟩ : ∃ m:Nat,m=m0+1:=⟨_,rfl⟩
   obtain ⟨m2,hm2⟩ : ∃ m:Nat,m=m0+2:=⟨_,rfl⟩
   obtain ⟨m3,hm3⟩ : ∃ m:Nat,m=m0+3:=⟨_,rfl⟩
   rw [← hm0] at w0_ w1_ w2_ w3_
   rw [← hm1] at w1_
   rw [← hm2] at w2_
   rw [← hm3] at w3_
   have p0:((m0:Int)<64)=True:=eq_true (by omega)
   have p1:((m1:Int)<64)=True:=eq_true (by omega)
   have p2:((m2:Int)<64)=True:=eq_true (by omega)
   have p3:((m3:Int)<64)=True:=eq_true (by omega)
   have q0:(0≤(m0:Int))=True:=eq_true (by omega)
   have q1:(0≤(m1:Int))=True:=eq_true (by omega)
   have q2:(0≤(m2:Int))=True:=eq_true (by omega)
   have q3:(0≤(m3:Int))=True:=eq_true (by omega)
   have EE:=ζa (And.intro hm0 (And.intro hm1 (And.intro hm2 hm3)))
   have LM:=ζa (show m0<64∧m1<64∧m2<64∧m3<64 by omega)
   have HI16:=ζa hi16
   clear hi hi16 hm0 hm1 hm2 hm3
   go_upto_region 4 with (fail)
   try go_wp2
   replace Bw:=ζa (δp Bw.out)
   replace HB:=ζa (δj HB.out)
   refine sta 37 (fun w'=>w'.cell? (adb.add m0)=some (.int .u8 (rd B (m0:Int)))∧w'.cell? (adb.add m1)=some (.int .u8 (rd B (m1:Int)))∧w'.cell? (adb.add m2)=some (.int .u8 (rd B (m2:Int)))∧w'.cell? (adb.add m3)=some (.int .u8 (rd B (m3:Int)))) [36] spec_l01Block.tab4 spec_l01Block.bits4 ⟨((HB.out.cell (World.block_lt_of_cell? w _ ((hBc.out m0 (by have:=LM.out;omega))))).trans ((hBc.out m0 (by have:=LM.out;omega)))),((HB.out.cell (World.block_lt_of_cell? w _ ((hBc.out m1 (by have:=LM.out;omega))))).trans ((hBc.out m1 (by have:=LM.out;omega)))),((HB.out.cell (World.block_lt_of_cell? w _ ((hBc.out m2 (by have:=LM.out;omega))))).trans ((hBc.out m2 (by have:=LM.out;omega)))),((HB.out.cell (World.block_lt_of_cell? w _ ((hBc.out m3 (by have:=LM.out;omega))))).trans ((hBc.out m3 (by have:=LM.out;omega))))⟩ (fun hHeld HT_ HW_ => ?_)
   generalize wr.drew=wd_ at Bw HB hHeld ⊢
   refine pu 0 23 ?_
   refine pu 1 24 ?_
   refine pu 2 25 ?_
   refine pu 3 26 ?_
   refine pu 4 27 ?_
   refine pu 5 28 ?_
   refine ta 6 29 ?_
   refine pu 7 30 ?_
   refine pu 8 31 ?_
   refine pu 9 32 ?_
   refine pu 10 33 ?_
   refine pu 11 34 ?_
   refine pu 12 35 ?_
   refine pu 13 36 ?_
   refine ta 14 37 ?_
   refine pu 15 38 ?_
   refine pu 16 39 ?_
   refine pu 17 40 ?_
   refine pu 18 41 ?_
   refine pu 19 42 ?_
   refine pu 20 43 ?_
   refine pu 21 44 ?_
   refine pu 22 45 ?_
   refine ta 23 46 ?_
   refine pu 24 47 ?_
   refine pu 25 48 ?_
   refine pu 26 49 ?_
   refine pu 27 50 ?_
   refine pu 28 51 ?_
   refine pu 29 52 ?_
   refine pu 30 53 ?_
   refine pu 31 54 ?_
   refine ta 32 55 ?_
   refine pu 33 56 ?_
   refine pu 34 57 ?_
   refine pu 35 58 ?_
   refine last_ (i:=36) (N:=none) #[τ,τ,τ,τ,τ,τ,τ,τ,τ,τ,τ,τ,τ,τ,τ,τ,τ,τ,τ,τ,τ,τ,τ,τ,τ,τ,τ,τ,τ,τ,τ,τ,τ,τ,τ,τ,τ] rfl rfl (one_of HT_.out (by kernel_rfl)) (by decide) (fun K hK => ?_)
   have hs:=(δl Bw.out i).trans (arr_get (by rw [spec_l01Block.upto_len];have:=HI16.out;omega))
   have hf:=δm Bw.out i
   refine skip_ (w1:=?_) (by rfl) rfl ?_ ?_
   rotate_left
   ·
    go_simp
    rfl
   refine hK.out _ _ ?_
   clear hK K
   refine done_ (done_of HT_.out (by kernel_rfl)) ?_
   go_wp2
   go_roundg k1
   case measure=>omega
   case rel =>
    refine ⟨i+1,by rw [INC.out],⟨by have:=HI.out;omega⟩,⟨δw Bw.out i _ ?_⟩,⟨δq HB.out GW.out⟩⟩
    rw [arr_set]
    obtain ⟨e0,e1,e2,e3⟩:=EE.out
    show _=(((spec_l01Block.upto B i).set i (spec_l01Block.at B (spec_l01Block.upto B i) i)).map (Value.int .u32)).toArray
    unfold spec_l01Block.at spec_l01Block.wd
    have f0:(m0:Int)=4 * (i:Int):=by omega
    have f1:(m1:Int)=4 * (i:Int)+1:=by omega
    have f2:(m2:Int)=4 * (i:Int)+2:=by omega
    have f3:(m3:Int)=4 * (i:Int)+3:=by omega
    rw [if_pos (by have:=HI16.out;omega),f0,f1,f2,f3]
  | zero =>
   have hi:i=16:=HI.out
   subst hi
   clear HI
   go_wp2
   go_loopg [8] 48 (fun kq v8 w' => ∃ i:Nat,v8 = .int .i64 (i:Int)∧Aside0 (i+kq=64)∧Aside0 (16≤i)∧Aside0 (w'.heap[gw]? = some (.cells (((spec_l01Block.upto B i).map (Value.int .u32)).toArray) 112 (0,0)))∧Aside0 (Below w.heap.size w w'))
   case atStart=>exact ⟨16,rfl,⟨rfl⟩,⟨Nat.le_refl _⟩,⟨by repeat (exact Bw.out)⟩,⟨by repeat (exact HB.out)⟩⟩
   case round =>
    clear Bw HB
    obtain ⟨i,rfl,HI,HH,Bw,HB⟩:=hrel
    cases gk with
    | succ k1 =>
     have hi:=HI.out
     have h16:=HH.out
     have hi64:(i:Int)<64:=by omega
     have c64:decide ((i:Int)<64)=τ:=decide_eq_true hi64
     have x64:((i:Int)<64)=True:=eq_true hi64
     have z0:(0≤(i:Int))=True:=eq_true (by omega)
     have INC:=ζa (show ζm ((i:Int)+1)=((i+1:Nat):Int) by rw [IntWalk.wrap64_in _ ⟨by omega,by omega⟩];rfl)
     have L64:=spec_l01Block.upto_len B i
     obtain ⟨n16,hn16,N16⟩ : ∃ n:Nat,ζm ((i:Int) - 16)=(n:Int)∧Aside0 (n+16=i):=⟨i - 16,by rw [IntWalk.wrap64_in _ ⟨by omega,by omega⟩];omega,⟨by omega⟩⟩
     obtain ⟨n15,hn15,N15⟩ : ∃ n:Nat,ζm ((i:Int) - 15)=(n:Int)∧Aside0 (n+15=i):=⟨i - 15,by rw [IntWalk.wrap64_in _ ⟨by omega,by omega⟩];omega,⟨by omega⟩⟩
     obtain ⟨n7,hn7,N7⟩ : ∃ n:Nat,ζm ((i:Int) - 7)=(n:Int)∧Aside0 (n+7=i):=⟨i - 7,by rw [IntWalk.wrap64_in _ ⟨by omega,by omega⟩];omega,⟨by omega⟩⟩
     obtain ⟨n2,hn2,N2⟩ : ∃ n:Nat,ζm ((i:Int) - 2)=(n:Int)∧Aside0 (n+2=i):=⟨i - 2,by rw [IntWalk.wrap64_in _ ⟨by omega,by omega⟩];omega,⟨by omega⟩⟩
     have x16:((n16:Int)<64)=True:=eq_true (by have:=N16.out;omega)
     have x15:((n15:Int)<64)=True:=eq_true (by have:=N15.out;omega)
     have x7:((n7:Int)<64)=True:=eq_true (by have:=N7.out;omega)
     have x2:((n2:Int)<64)=True:=eq_true (by have:=N2.out;omega)
     have z16:(0≤(n16:Int))=True:=eq_true (by omega)
     have z15:(0≤(n15:Int))=True:=eq_true (by omega)
     have z7:(0≤(n7:Int))=True:=eq_true (by omega)
     have z2:(0≤(n2:Int))=True:=eq_true (by omega)
     have v15:=(δl Bw.out n15).trans (arr_get (by rw [L64];have:=N15.out;omega))
     have v2:=(δl Bw.out n2).trans (arr_get (by rw [L64];have:=N2.out;omega))
     have H64:=ζa hi64
     clear hi64 L64 hi h16
     go_upto_region 10 with (fail)
     clear v15 v2
     try go_wp2
     replace Bw:=ζa (δp Bw.out)
     replace HB:=ζa (δj HB.out)
     refine sta 33 (fun w'=>w'.cell? ⟨gw,n16,none⟩=some (.int .u32 (rd (spec_l01Block.upto B i) (n16:Int)))∧w'.cell? ⟨gw,n7,none⟩=some (.int .u32 (rd (spec_l01Block.upto B i) (n7:Int)))) [32] spec_l01Block.tab10 spec_l01Block.bits10 ⟨(δl Bw.out n16).trans (arr_get (by rw [spec_l01Block.upto_len];have:=N16.out;have:=H64.out;omega)),(δl Bw.out n7).trans (arr_get (by rw [spec_l01Block.upto_len];have:=N7.out;have:=H64.out;omega))⟩ (fun hHeld HT_ HW_ => ?_)
     generalize wr.drew=wd_ at Bw HB hHeld ⊢
     refine pu 0 73 ?_
     refine pu 1 74 ?_
     refine pu 2 75 ?_
     refine pu 3 76 ?_
     refine pu 4 77 ?_
     refine pu 5 78 ?_
     refine ta 6 79 ?_
     refine pu 7 80 ?_
     refine pu 9 82 ?_
     refine pu 12 85 ?_
     refine pu 13 86 ?_
     refine pu 16 89 ?_
     refine pu 17 90 ?_
     refine pu 18 91 ?_
     refine pu 19 92 ?_
     refine ta 20 93 ?_
     refine pu 22 95 ?_
     refine pu 24 97 ?_
     refine pu 27 100 ?_
     refine pu 28 101 ?_
     refine on 8 81 (fun K hK => ?_)
     refine gs Tryz.func147 #[.int .u32 (rd (spec_l01Block.upto B i) (n15:Int)),.int .u64 7] ?_
     with_reducible refine (spec_l01Turn.calls (rd (spec_l01Block.upto B i) (n15:Int)) 7 _ _ (sturn_at (rd (spec_l01Block.upto B i) (n15:Int)) 7 (by decide))).mono ?_
     rintro e w_ ⟨rfl,⟨nd8,rfl⟩⟩
     refine ⟨_,rfl,?_⟩
     refine hK.out _ _ ⟨(δl Bw.out n16).trans (arr_get (by rw [spec_l01Block.upto_len];have:=N16.out;have:=H64.out;omega)),(δl Bw.out n7).trans (arr_get (by rw [spec_l01Block.upto_len];have:=N7.out;have:=H64.out;omega))⟩ (fun hHeld => ?_)
     clear hK K
     refine nm 81 ?_
     refine on 10 83 (fun K hK => ?_)
     refine gs Tryz.func147 #[.int .u32 (rd (spec_l01Block.upto B i) (n15:Int)),.int .u64 18] ?_
     with_reducible refine (spec_l01Turn.calls (rd (spec_l01Block.upto B i) (n15:Int)) 18 _ _ (sturn_at (rd (spec_l01Block.upto B i) (n15:Int)) 18 (by decide))).mono ?_
     rintro e w_ ⟨rfl,⟨nd10,rfl⟩⟩
     refine ⟨_,rfl,?_⟩
     refine hK.out _ _ ⟨(δl Bw.out n16).trans (arr_get (by rw [spec_l01Block.upto_len];have:=N16.out;have:=H64.out;omega)),(δl Bw.out n7).trans (arr_get (by rw [spec_l01Block.upto_len];have:=N7.out;have:=H64.out;omega))⟩ (fun hHeld => ?_)
     clear hK K
     refine nm 83 ?_
     refine pu 11 84 ?_
     refine pu 14 87 ?_
     refine pu 15 88 ?_
     refine pu 21 94 ?_
     refine on 23 96 (fun K hK => ?_)
     refine gs Tryz.func147 #[.int .u32 (rd (spec_l01Block.upto B i) (n2:Int)),.int .u64 17] ?_
     with_reducible refine (spec_l01Turn.calls (rd (spec_l01Block.upto B i) (n2:Int)) 17 _ _ (sturn_at (rd (spec_l01Block.upto B i) (n2:Int)) 17 (by decide))).mono ?_
     rintro e w_ ⟨rfl,⟨nd23,rfl⟩⟩
     refine ⟨_,rfl,?_⟩
     refine hK.out _ _ ⟨(δl Bw.out n16).trans (arr_get (by rw [spec_l01Block.upto_len];have:=N16.out;have:=H64.out;omega)),(δl Bw.out n7).trans (arr_get (by rw [spec_l01Block.upto_len];have:=N7.out;have:=H64.out;omega))⟩ (fun hHeld => ?_)
     clear hK K
     refine nm 96 ?_
     refine on 25 98 (fun K hK => ?_)
     refine gs Tryz.func147 #[.int .u32 (rd (spec_l01Block.upto B i) (n2:Int)),.int .u64 19] ?_
     with_reducible refine (spec_l01Turn.calls (rd (spec_l01Block.upto B i) (n2:Int)) 19 _ _ (sturn_at (rd (spec_l01Block.upto B i) (n2:Int)) 19 (by decide))).mono ?_
     rintro e w_ ⟨rfl,⟨nd25,rfl⟩⟩
     refine ⟨_,rfl,?_⟩
     refine hK.out _ _ ⟨(δl Bw.out n16).trans (arr_get (by rw [spec_l01Block.upto_len];have:=N16.out;have:=H64.out;omega)),(δl Bw.out n7).trans (arr_get (by rw [spec_l01Block.upto_len];have:=N7.out;have:=H64.out;omega))⟩ (fun hHeld => ?_)
     clear hK K
     refine nm 98 ?_
     refine pu 26 99 ?_
     refine pu 29 102 ?_
     refine pu 30 103 ?_
     refine pu 31 104 ?_
     refine last_ (i:=32) (N:=none) #[τ,τ,τ,τ,τ,τ,τ,τ,τ,τ,τ,τ,τ,τ,τ,τ,τ,τ,τ,τ,τ,τ,τ,τ,τ,τ,τ,τ,τ,τ,τ,τ,τ] rfl rfl (one_of HT_.out (by kernel_rfl)) (by decide) (fun K hK => ?_)
     have hs:wd_.cell? ⟨gw,i,none⟩=_:=(δl Bw.out i).trans (arr_get (by rw [spec_l01Block.upto_len];have:=H64.out;omega))
     have hf:=δm Bw.out i
     refine skip_ (w1:=?_) (by rfl) rfl ?_ ?_
     rotate_left
     ·
      go_simp
      rfl
     refine hK.out _ _ ?_
     clear hK K
     refine done_ (done_of HT_.out (by kernel_rfl)) ?_
     go_wp2
     go_roundg k1
     case measure=>omega
     case rel =>
      refine ⟨i+1,by rw [INC.out],⟨by have:=HI.out;omega⟩,⟨by have:=HH.out;omega⟩,⟨δw (δn Bw.out _) i _ ?_⟩,⟨δq (by apply δi;exact HB.out) GW.out⟩⟩
      rw [arr_set]
      show _=(((spec_l01Block.upto B i).set i (spec_l01Block.at B (spec_l01Block.upto B i) i)).map (Value.int .u32)).toArray
      unfold spec_l01Block.at spec_l01Block.sg
      rw [if_neg (by have:=HH.out;omega),show (i:Int) - 16=(n16:Int) by have:=N16.out;omega,show (i:Int) - 15=(n15:Int) by have:=N15.out;omega,show (i:Int) - 7=(n7:Int) by have:=N7.out;omega,show (i:Int) - 2=(n2:Int) by have:=N2.out;omega]
    | zero =>
     have hi:i=64:=HI.out
     subst hi
     clear HI HH
     have hCH:Kd.C (Kd.int .u32) w (some ⟨gh,0,none⟩) 8 H  :=Kd.C_of_reads (d:=(0:Int)) ⟨LH.out,by decide,fun _=>⟨⟨gh,0,none⟩,rfl,fun j hj=>by
      rw [off_zero]
      have h:=(δl BH.out j).trans (arr_get (L:=H) (i:=j) (by have:=LH.out;omega))
      exact h⟩⟩
     have CH:=ζa hCH
     clear hCH
     obtain ⟨W64,hW64⟩ : ∃ l:List Int,l=spec_l01Block.upto B 64:=⟨_,rfl⟩
     rw [← hW64] at Bw
     have L64:=ζa (show W64.length=64 by rw [hW64];exact spec_l01Block.upto_len B 64)
     have HW64:=ζa hW64
     clear hW64
     have BR:=ζa (Below.refl wr.heap.size wr)
     go_wp2_with (first|((with_reducible refine δx (N:=105) rfl ?_);refine Kd.R_lit (Kd.int .u32) wr.heap.size 112 ?hg (N:=105) ?hd (w0:=wr) (xs:=([]:List Int)) (inner:=[]) (ok:=fun _=>True) (okp:=fun _=>True) ?hr ?hp (fun _ hk=>hk) trivial (by repeat (exact Below.refl _ _)) (Below.size (show Below wr.heap.size wr _ from by repeat (exact Below.refl _ _))) (by simp) ?_;(case hd=>rfl);(case hg=>rfl);(case hr=>(go_simp;done));(case hp=>exact (Reps.none _ _));intro vL wL hoL hbL hg_ hnew_;clear hg_ hnew_;have HOL:=ζa hoL;have HBL:=ζa hbL;clear hoL hbL)|((with_reducible refine δx (N:=107) rfl ?_);refine Kd.R_append_rows (w0:=wr) (Rr:=(Kd.int .u32).K wL) (Kd.int .u32) wr.heap.size ?hg (.tmp 105) (.tmp 106) 118 112 (.int .u32 0) 4 rfl Tryz.underlying118 info112 rfl (by decide) (by decide) vL [] H (some ⟨gh,0,none⟩) 8 8 (fun _=>True) (fun _=>False) rfl rfl HOL.out (Kd.C_below (Kd.C_below CH.out HB.out) HBL.out) (fun x cs h=>h) (fun _ h=>h.elim) (fun _ _=>trivial) HBL.out HBL.out.size (by have:=LH.out;simp only [List.length_nil];omega) ?_;(case hg=>rfl);intro vM wM hoM hbM hg_ hnew_;clear hg_ hnew_;have HOM:=ζa hoM;have HBM:=ζa hbM;clear hoM hbM))
     obtain ⟨Av,cv,ev⟩:=Kd.R_slice HOM.out
     subst ev
     have hrd:=(ζg HOM.out).2.2
     obtain ⟨adv,rfl,_⟩:=Kd.at_int hrd 0 (by decide) (by have:=LH.out;simp only [List.nil_append];omega)
     have CV:Aside0 (∀ j:Nat,j<8→wM.cell? (adv.add j)=some (.int .u32 (rd H (j:Int)))):=⟨fun j hj=>by
      obtain ⟨ad,e,hc⟩:=Kd.at_int hrd (j:Int) (by omega) (by have:=LH.out;simp only [List.nil_append];omega)
      injection e with e
      subst e
      rw [Int.toNat_natCast,List.nil_append] at hc
      exact hc⟩
     clear hrd
     have lN:(([]:List Int) ++ H).length=8:=by rw [List.nil_append];exact LH.out
     rw [lN]
     clear lN
     have n0_:=ζa (δr HB.out HBM.out)
     have n1_:=ζa (blk_below Bw.out HBM.out)
     clear HB Bw HOM HOL HBL HBM CH
     have HB:=n0_
     have Bw:=n1_
     clear n0_ n1_
     have LTH:=ζa (blk_lt BH.out)
     go_loopg [11,12] 64 (fun kq v11 v12 w' => ∃ (i:Nat) (V:List Int) (adv:Addr) (cv:Nat),v12 = .int .i64 (i:Int)∧v11 = .slice (some adv) 8 cv∧Aside0 (i+kq=64)∧Aside0 (V=spec_l01Block.rounds KK W64 H i)∧Aside0 (V.length=8)∧Aside0 (i=0 ∨ adv.block≠gh)∧Aside0 (∀ j:Nat,j<8→w'.cell? (adv.add j)=some (.int .u32 (rd V (j:Int))))∧Aside0 (w'.heap[gw]? = some (.cells ((W64.map (Value.int .u32)).toArray) 112 (0,0)))∧Aside0 (Below w.heap.size w w'))
     case atStart=>exact ⟨0,H,adv,cv,rfl,rfl,⟨rfl⟩,⟨rfl⟩,LH,⟨Or.inl rfl⟩,CV,Bw,HB⟩
     case round =>
      clear CV Bw HB
      obtain ⟨i,V,adv,cv,rfl,rfl,HI,HV,HV8,NG,CV,Bw,HB⟩:=hrel
      cases gk with
      | succ k1 =>
       have hi:=HI.out
       have hi64:(i:Int)<64:=by omega
       have c64:decide ((i:Int)<64)=τ:=decide_eq_true hi64
       have x64:((i:Int)<64)=True:=eq_true hi64
       have z0:(0≤(i:Int))=True:=eq_true (by omega)
       have INC:=ζa (show ζm ((i:Int)+1)=((i+1:Nat):Int) by rw [IntWalk.wrap64_in _ ⟨by omega,by omega⟩];rfl)
       have cv0:wr.cell? adv=some (.int .u32 (rd V 0)):=CV.out 0 (by decide)
       have cv1:wr.cell? ⟨adv.block,adv.off+1,none⟩=some (.int .u32 (rd V 1)):=CV.out 1 (by decide)
       have cv2:wr.cell? ⟨adv.block,adv.off+2,none⟩=some (.int .u32 (rd V 2)):=CV.out 2 (by decide)
       have cv3:wr.cell? ⟨adv.block,adv.off+3,none⟩=some (.int .u32 (rd V 3)):=CV.out 3 (by decide)
       have cv4:wr.cell? ⟨adv.block,adv.off+4,none⟩=some (.int .u32 (rd V 4)):=CV.out 4 (by decide)
       have cv5:wr.cell? ⟨adv.block,adv.off+5,none⟩=some (.int .u32 (rd V 5)):=CV.out 5 (by decide)
       have cv6:wr.cell? ⟨adv.block,adv.off+6,none⟩=some (.int .u32 (rd V 6)):=CV.out 6 (by decide)
       have cv7:wr.cell? ⟨adv.block,adv.off+7,none⟩=some (.int .u32 (rd V 7)):=CV.out 7 (by decide)
       have ck:wr.cell? (adk.add i)=some (.int .u32 (rd KK (i:Int))):=(HB.out.cell (World.block_lt_of_cell? w _ (hKc.out i (by omega)))).trans (hKc.out i (by omega))
       have vw:wr.cell? ⟨gw,i,none⟩=some (.int .u32 (rd W64 (i:Int))):=(δl Bw.out i).trans (arr_get (by have:=L64.out;omega))
       clear hi hi64
       go_upto_region 17 with (fail)
       go_quiet (first
        | (go_at_call 147;(with_reducible refine (spec_l01Turn.calls (rd V 4) 6 _ _ (sturn_at (rd V 4) 6 (by decide))).mono ?_);rintro e w' ⟨rfl,⟨nd,rfl⟩⟩;(try first|exact ⟨rfl,_,World.drewN_drewN _ _ _⟩|exact ⟨rfl,_,Eq.trans (World.drewN_drewN _ _ _) (congrArg (World.drewN _) (Nat.add_assoc _ _ _))⟩))
        | (go_at_call 147;(with_reducible refine (spec_l01Turn.calls (rd V 4) 11 _ _ (sturn_at (rd V 4) 11 (by decide))).mono ?_);rintro e w' ⟨rfl,⟨nd,rfl⟩⟩;(try first|exact ⟨rfl,_,World.drewN_drewN _ _ _⟩|exact ⟨rfl,_,Eq.trans (World.drewN_drewN _ _ _) (congrArg (World.drewN _) (Nat.add_assoc _ _ _))⟩))
        | (go_at_call 147;(with_reducible refine (spec_l01Turn.calls (rd V 4) 25 _ _ (sturn_at (rd V 4) 25 (by decide))).mono ?_);rintro e w' ⟨rfl,⟨nd,rfl⟩⟩;(try first|exact ⟨rfl,_,World.drewN_drewN _ _ _⟩|exact ⟨rfl,_,Eq.trans (World.drewN_drewN _ _ _) (congrArg (World.drewN _) (Nat.add_assoc _ _ _))⟩)))
       go_upto_region 18 with (fail)
       go_quiet (first
        | (go_at_call 147;(with_reducible refine (spec_l01Turn.calls (rd V 0) 2 _ _ (sturn_at (rd V 0) 2 (by decide))).mono ?_);rintro e w' ⟨rfl,⟨nd,rfl⟩⟩;(try first|exact ⟨rfl,_,World.drewN_drewN _ _ _⟩|exact ⟨rfl,_,Eq.trans (World.drewN_drewN _ _ _) (congrArg (World.drewN _) (Nat.add_assoc _ _ _))⟩))
        | (go_at_call 147;(with_reducible refine (spec_l01Turn.calls (rd V 0) 13 _ _ (sturn_at (rd V 0) 13 (by decide))).mono ?_);rintro e w' ⟨rfl,⟨nd,rfl⟩⟩;(try first|exact ⟨rfl,_,World.drewN_drewN _ _ _⟩|exact ⟨rfl,_,Eq.trans (World.drewN_drewN _ _ _) (congrArg (World.drewN _) (Nat.add_assoc _ _ _))⟩))
        | (go_at_call 147;(with_reducible refine (spec_l01Turn.calls (rd V 0) 22 _ _ (sturn_at (rd V 0) 22 (by decide))).mono ?_);rintro e w' ⟨rfl,⟨nd,rfl⟩⟩;(try first|exact ⟨rfl,_,World.drewN_drewN _ _ _⟩|exact ⟨rfl,_,Eq.trans (World.drewN_drewN _ _ _) (congrArg (World.drewN _) (Nat.add_assoc _ _ _))⟩)))
       go_upto_region 19 with (fail)
       try go_wp2
       refine sta 28 (fun w'=>w'.cell? adv=some (.int .u32 (rd V 0))∧w'.cell? ⟨adv.block,adv.off+1,none⟩=some (.int .u32 (rd V 1))∧w'.cell? ⟨adv.block,adv.off+2,none⟩=some (.int .u32 (rd V 2))∧w'.cell? ⟨adv.block,adv.off+3,none⟩=some (.int .u32 (rd V 3))∧w'.cell? ⟨adv.block,adv.off+4,none⟩=some (.int .u32 (rd V 4))∧w'.cell? ⟨adv.block,adv.off+5,none⟩=some (.int .u32 (rd V 5))∧w'.cell? ⟨adv.block,adv.off+6,none⟩=some (.int .u32 (rd V 6))) [] spec_l01Block.tab19 spec_l01Block.bits19 ⟨cv0,cv1,cv2,cv3,cv4,cv5,cv6⟩ (fun hHeld HT_ HW_ => ?_)
       refine pu 0 181 ?_
       refine pu 1 182 ?_
       refine pu 2 183 ?_
       refine pu 3 184 ?_
       refine pu 4 185 ?_
       refine ta 5 186 ?_
       refine pu 6 187 ?_
       refine pu 7 188 ?_
       refine ta 8 189 ?_
       refine pu 9 190 ?_
       refine pu 10 191 ?_
       refine ta 11 192 ?_
       refine pu 12 193 ?_
       refine pu 13 194 ?_
       refine ta 14 195 ?_
       refine pu 15 196 ?_
       refine pu 16 197 ?_
       refine pu 17 198 ?_
       refine pu 18 199 ?_
       refine ta 19 200 ?_
       refine pu 20 201 ?_
       refine pu 21 202 ?_
       refine ta 22 203 ?_
       refine pu 23 204 ?_
       refine pu 24 205 ?_
       refine ta 25 206 ?_
       refine on 26 207 (fun K hK => ?_)
       refine lit_step ?hg (n:=8) (N:=207) ?hd (cs:=(((spec_l01Block.step KK W64 V i).map (Value.int .u32)).toArray)) (t:=112) ?hr ?_
       (case hd=>rfl)
       (case hg=>rfl)
       (case hr=>(go_simp;rfl))
       intro gv hgv w_ hbox hb
       have GV:=ζa ((by rw [hgv];exact δs (show Below w.heap.size w _ from by repeat (first|exact HB.out|apply δi))):w.heap.size≤gv)
       have HS0_:=(hb.cell (World.block_lt_of_cell? _ _ (hHeld.1))).trans (hHeld.1)
       have HS1_:=(hb.cell (World.block_lt_of_cell? _ _ (hHeld.2.1))).trans (hHeld.2.1)
       have HS2_:=(hb.cell (World.block_lt_of_cell? _ _ (hHeld.2.2.1))).trans (hHeld.2.2.1)
       have HS3_:=(hb.cell (World.block_lt_of_cell? _ _ (hHeld.2.2.2.1))).trans (hHeld.2.2.2.1)
       have HS4_:=(hb.cell (World.block_lt_of_cell? _ _ (hHeld.2.2.2.2.1))).trans (hHeld.2.2.2.2.1)
       have HS5_:=(hb.cell (World.block_lt_of_cell? _ _ (hHeld.2.2.2.2.2.1))).trans (hHeld.2.2.2.2.2.1)
       have HS6_:=(hb.cell (World.block_lt_of_cell? _ _ (hHeld.2.2.2.2.2.2))).trans (hHeld.2.2.2.2.2.2)
       have n0_:=ζa (blk_below (δp (δn Bw.out _)) hb)
       have n1_:=ζa (δr (by repeat (first|exact HB.out|apply δi)) hb)
       clear Bw HB
       have Bw:=n0_
       have HB:=n1_
       clear n0_ n1_
       have BV:=ζa hbox
       clear hb hbox hgv
       refine hK.out _ _ ⟨HS0_,HS1_,HS2_,HS3_,HS4_,HS5_,HS6_⟩ (fun hHeld => ?_)
       clear hK K
       refine nm 207 ?_
       refine pu 27 11 ?_
       refine done_ (done_of HT_.out (by kernel_rfl)) ?_
       go_wp2
       go_roundg k1
       case measure=>omega
       case rel =>
        refine ⟨i+1,spec_l01Block.step KK W64 V i,⟨gv,0,none⟩,8,by rw [INC.out],rfl,⟨by have:=HI.out;omega⟩,⟨by rw [HV.out];rfl⟩,⟨rfl⟩,⟨Or.inr (fun e=>by have:=GV.out;have:=LTH.out;simp only at e;omega)⟩,⟨fun j hj => ?_⟩,⟨Bw.out⟩,⟨HB.out⟩⟩
        rw [off_zero]
        exact (δl BV.out j).trans (arr_get hj)
      | zero =>
       have hi:i=64:=HI.out
       subst hi
       have ng:adv.block≠gh:=by
        rcases NG.out with h|h
        · cases h
        ·
         exact h
       have NGG:=ζa ng
       have n0_:Aside0 (∀ g,g<w.heap.size→g≠gh→wr.heap[g]? = w.heap[g]?):=⟨fun g hg _=>HB.out.block g hg⟩
       have n1_:Aside0 (w.heap.size≤wr.heap.size):=⟨HB.out.size⟩
       have n2_:=ζa (δr HB0.out HB.out)
       have n3_:=ζa (blk_below BH.out HB.out)
       clear BH HB NG ng Bw
       have FR:=n0_
       have SZ:=n1_
       have HB:=n2_
       have BH:=n3_
       clear n0_ n1_ n2_ n3_ HI
       go_wp2
       go_loopg [17] 8 (fun kq v17 w' => ∃ i:Nat,v17 = .int .i64 (i:Int)∧Aside0 (i+kq=8)∧Aside0 (w'.heap[gh]? = some (.cells (((impl_blockHash.adds H V i).map (Value.int .u32)).toArray) 112 (0,0)))∧Aside0 (∀ j:Nat,j<8→w'.cell? (adv.add j)=some (.int .u32 (rd V (j:Int))))∧Aside0 (∀ g,g<w.heap.size→g≠gh→w'.heap[g]? = w.heap[g]?)∧Aside0 (w.heap.size≤w'.heap.size)∧Aside0 (Below w0.heap.size w0 w'))
       case atStart=>exact ⟨0,rfl,⟨rfl⟩,⟨BH.out⟩,⟨CV.out⟩,⟨FR.out⟩,⟨SZ.out⟩,⟨HB.out⟩⟩
       case round =>
        clear BH CV FR SZ HB
        obtain ⟨i,rfl,HI,BH,CV,FR,SZ,HB⟩:=hrel
        cases gk with
        | succ k1 =>
         have hi:=HI.out
         have hi8:(i:Int)<8:=by omega
         have c8:decide ((i:Int)<8)=τ:=decide_eq_true hi8
         have x8:((i:Int)<8)=True:=eq_true hi8
         have z0:(0≤(i:Int))=True:=eq_true (by omega)
         have INC:=ζa (show ζm ((i:Int)+1)=((i+1:Nat):Int) by rw [IntWalk.wrap64_in _ ⟨by omega,by omega⟩];rfl)
         have LX:=ζa (show (impl_blockHash.adds H V i).length=8 by rw [impl_blockHash.adds_len];exact LH.out)
         have H8:=ζa hi8
         clear hi hi8
         go_upto_region 23 with (fail)
         try go_wp2
         replace BH:=ζa (δp BH.out)
         have n0_:Aside0 (∀ j:Nat,j<8→wr.drew.cell? (adv.add j)=some (.int .u32 (rd V (j:Int)))):=⟨CV.out⟩
         clear CV
         have CV:=n0_
         clear n0_
         have n0_:Aside0 (∀ g,g<w.heap.size→g≠gh→wr.drew.heap[g]? = w.heap[g]?):=⟨FR.out⟩
         clear FR
         have FR:=n0_
         clear n0_
         have n0_:Aside0 (w.heap.size≤wr.drew.heap.size):=⟨SZ.out⟩
         clear SZ
         have SZ:=n0_
         clear n0_
         replace HB:=ζa (δj HB.out)
         refine sta 11 (fun w'=>w'.cell? ⟨gh,i,none⟩=some (.int .u32 (rd (impl_blockHash.adds H V i) (i:Int)))∧w'.cell? (adv.add i)=some (.int .u32 (rd V (i:Int)))) [10] spec_l01Block.tab23 spec_l01Block.bits23 ⟨(δl BH.out i).trans (arr_get (by have:=LX.out;have:=H8.out;omega)),CV.out i (by have:=H8.out;omega)⟩ (fun hHeld HT_ HW_ => ?_)
         generalize wr.drew=wd_ at BH CV FR SZ HB hHeld ⊢
         refine pu 0 212 ?_
         refine pu 1 213 ?_
         refine pu 2 214 ?_
         refine ta 3 215 ?_
         refine pu 4 216 ?_
         refine pu 5 217 ?_
         refine pu 6 218 ?_
         refine ta 7 219 ?_
         refine pu 8 220 ?_
         refine pu 9 221 ?_
         refine last_ (i:=10) (N:=none) #[τ,τ,τ,τ,τ,τ,τ,τ,τ,τ,τ] rfl rfl (one_of HT_.out (by kernel_rfl)) (by decide) (fun K hK => ?_)
         have hs:=(δl BH.out i).trans (arr_get (by have:=LX.out;have:=H8.out;omega))
         have hf:=δm BH.out i
         refine skip_ (w1:=?_) (by rfl) rfl ?_ ?_
         rotate_left
         ·
          go_simp
          rfl
         refine hK.out _ _ ?_
         clear hK K
         refine done_ (done_of HT_.out (by kernel_rfl)) ?_
         go_wp2
         go_roundg k1
         case measure=>omega
         case rel =>
          refine ⟨i+1,by rw [INC.out],⟨by have:=HI.out;omega⟩,⟨δw BH.out i _ ?_⟩,⟨fun j hj=>(δt (p:=⟨gh,i,none⟩) (by rw [δu];exact NGG.out) _).trans (CV.out j hj)⟩,⟨fun g hg hne=>(Below.heap_setCell _ ⟨gh,i,none⟩ _ g hne).trans (FR.out g hg hne)⟩,⟨by have:=SZ.out;simpa [World.setCell] using this⟩,⟨δq HB.out HGH.out⟩⟩
          rw [arr_set]
          rfl
        | zero =>
         have hi:i=8:=HI.out
         subst hi
         go_wp2
         go_end0
         refine ⟨rfl,?_,HB.out,FR.out,SZ.out⟩
         have e:=BH.out
         rw [HV.out,HW64.out] at e
         exact e


open Go.Proofs.YtggemblkhckbpaaGreatDoorW.PrintWords renaming blk_cell → δl, gate_dst → δx, below_size → δs, below_alloc → δk, pw_below_drewN → δi, below_drew1 → δj, below_step → δr, blk_drew → δp
open Go.Proofs.YtggemblkhckbpaaGreatDoorW.PrintWords.Kd renaming R_ne → ζf, R_below → ζh, R_reads' → ζg, R_drew → ζe
open List renaming map_toArray → δd, map_cons → δe, map_nil → δf
set_option maxHeartbeats 8000000
set_option maxRecDepth 100000


/-! ### spec_l01Hash: function 80 -/
theorem C_one8 {W:World} {g:Nat} {x:Int} (h:W.heap[g]? = some (.cells #[.int .u8 x] 5 (0,0))):Kd.C (Kd.int .u8) W (some ⟨g,0,none⟩) 1 [x]:=Kd.C_of_reads (d:=(0:Int)) ⟨rfl,by decide,fun _=>⟨⟨g,0,none⟩,rfl,fun j hj=>by
 obtain rfl:j=0:=by omega
 exact (δl h 0).trans rfl⟩⟩
theorem off_add {g a j:Nat} : (⟨g,a,none⟩:Addr).add j=⟨g,a+j,none⟩:=by unfold Addr.add;split <;> simp_all
theorem rd_sub {t:List Int} {a j:Nat} (h:j<64):rd ((t.drop a).take 64) (j:Int)=rd t ((a+j:Nat):Int):=by
 show ((t.drop a).take 64).getD ((j:Int)).toNat 0=t.getD (((a+j:Nat):Int)).toNat 0
 rw [Int.toNat_natCast,Int.toNat_natCast,List.getD_eq_getElem?_getD,List.getD_eq_getElem?_getD,List.getElem?_take,if_pos h,List.getElem?_drop]
theorem cell_same {W W':World} {g q:Nat} (h:W'.heap[g]? = W.heap[g]?):W'.cell? ⟨g,q,none⟩=W.cell? ⟨g,q,none⟩:=by simp only [World.cell?,h]
def spec_l01Hash.st (K H:List Int) (t:List Int):Nat→List Int
 | 0=>H
 | i+1=>spec_l01Block.v (spec_l01Hash.st K H t i) ((t.drop (64 * i)).take 64) K
def spec_l01Hash.lb (n:Nat):Nat→List Int
 | 0 => []
 | j+1=>spec_l01Hash.lb n j ++ [8 * (n:Int) / 2 ^ (8 * (7 - j)) % 256]
theorem spec_l01Hash.lb_len (n:Nat) : ∀ j,(spec_l01Hash.lb n j).length=j
 | 0=>rfl
 | j+1=>by unfold spec_l01Hash.lb;rw [List.length_append,spec_l01Hash.lb_len n j];rfl
theorem spec_l01Hash.st_len (K H t:List Int) (h:H.length=8) : ∀ i,(spec_l01Hash.st K H t i).length=8
 | 0=>h
 | i+1=>by unfold spec_l01Hash.st spec_l01Block.v;rw [impl_blockHash.adds_len];exact spec_l01Hash.st_len K H t h i
def spec_l01Hash.h0:List Int:=[1779033703,3144134277,1013904242,2773480762,1359893119,2600822924,528734635,1541459225]
theorem spec_l01Hash.h0_len:spec_l01Hash.h0.length=8:=rfl
theorem C_four8 {W:World} {g:Nat} {a b c d:Int} (h:W.heap[g]? = some (.cells #[.int .u8 a,.int .u8 b,.int .u8 c,.int .u8 d] 5 (0,0))):Kd.C (Kd.int .u8) W (some ⟨g,0,none⟩) 4 [a,b,c,d]:=Kd.C_of_reads (d:=(0:Int)) ⟨rfl,by decide,fun _=>⟨⟨g,0,none⟩,rfl,fun j hj=>by
 rw [off_zero]
 match j,hj with
 | 0,_=>exact (δl h 0).trans rfl
 | 1,_=>exact (δl h 1).trans rfl
 | 2,_=>exact (δl h 2).trans rfl
 | 3,_=>exact (δl h 3).trans rfl⟩⟩
def spec_l01Hash.ol (ST:List Int):Nat→List Int
 | 0 => []
 | j+1=>spec_l01Hash.ol ST j ++ [IntKind.u8.wrap (rd ST (j:Int) / 16777216),IntKind.u8.wrap (rd ST (j:Int) / 65536),IntKind.u8.wrap (rd ST (j:Int) / 256),IntKind.u8.wrap (rd ST (j:Int))]
theorem spec_l01Hash.ol_len (ST:List Int) : ∀ j,(spec_l01Hash.ol ST j).length=4 * j
 | 0=>rfl
 | j+1=>by unfold spec_l01Hash.ol;rw [List.length_append,spec_l01Hash.ol_len ST j];simp only [List.length_cons,List.length_nil];omega
def spec_l01Hash.pad (L:List Int):List Int:=((([] ++ L) ++ [128]) ++ List.replicate ((119 - L.length % 64) % 64) 0) ++ spec_l01Hash.lb L.length 8
def spec_l01Hash.v (L:List Int):ByteArray:=strOfNums (spec_l01Hash.ol (spec_l01Hash.st (spec_l01Consts.f.getD []) spec_l01Hash.h0 (spec_l01Hash.pad L) ((spec_l01Hash.pad L).length / 64)) 8)
def spec_l01Hash.T18:Bool × List (List Nat × List Nat):=(τ,[([],[]),([],[]),([],[]),([1,2],[1,2]),([3],[3]),([4],[4]),([5],[5]),([],[]),([],[]),([7,8],[7,8]),([9],[9]),([10],[10]),([11],[11]),([],[]),([],[]),([13,14],[13,14]),([15],[15]),([16],[16]),([17],[17]),([],[]),([],[]),([19,20],[19,20]),([21],[21]),([22],[22]),([6,12,18,23],[6,12,18,23]),([0,24],[0,24]),([25,25,0,1,2,3,4,5,6,7,8,9,10,11,12,13,14,15,16,17,18,19,20,21,22,23,24,25],[0,25])])
def spec_l01Hash.B18:List Nat:=[0,0,0,6,14,30,62,0,0,384,896,1920,3968,0,0,24576,57344,122880,253952,0,0,1572864,3670016,7864320,16777214,33554431,67108863]
theorem spec_l01Hash.tab18:rtab .any (opsOf Tryz.f80 18)=spec_l01Hash.T18:=by kernel_rfl
theorem spec_l01Hash.bits18:waitsOk spec_l01Hash.T18.2 spec_l01Hash.B18=τ:=by kernel_rfl
theorem spec_l01Hash.run (A:Option Addr) (ca:Nat) (L:List Int) (w:World) (hL:Kd.C (Kd.int .u8) w A L.length L) (hc:L.length≤ca) (hn:L.length≤1000000) :
  Calls Tryz.prog 80 #[.slice A L.length ca] w fun e w'=>e = .returned (.string (spec_l01Hash.v L))∧Below w.heap.size w w':=by
 have hu48:=Tryz.underlying118
 have hu22:=Tryz.underlying22
 have HL:=ζa hL
 have HB:=ζa (Below.refl w.heap.size w)
 have HN:=ζa hn
 clear hL hc hn
 go_enter Tryz.func80,Tryz.ntmps80
 go_wp2_with (first
  | ((with_reducible refine δx (N:=10) rfl ?_);refine lit_event1 ?hg (n:=8) (N:=10) ?hd (cs:=((spec_l01Hash.h0.map (Value.int .u32)).toArray)) (t:=112) ?hr ?_;(case hd=>rfl);(case hg=>rfl);(case hr=>first|(go_simp;done)|(go_simp;rfl));intro gh hgl wh hbox hb;have Ggh:=ζa ((by rw [hgl];exact δs (show Below w.heap.size w _ from by repeat (first|exact HB.out|apply δk|apply δi|apply δj))):w.heap.size≤gh);replace HB:=ζa (δr (by repeat (first|exact HB.out|apply δk|apply δi|apply δj)) hb);have Bgh:=ζa hbox;clear hb hbox hgl)
  | ((with_reducible refine δx (N:=11) rfl ?_);refine Kd.R_lit (Kd.int .u8) w.heap.size 5 ?hg (N:=11) ?hd (w0:=w) (xs:=([]:List Int)) (inner:=[]) (ok:=fun _=>True) (okp:=fun _=>True) ?hr ?hp (fun _ hk=>hk) trivial HB.out HB.out.size (by simp) ?_;(case hd=>rfl);(case hg=>rfl);(case hr=>first|(go_simp;done)|(go_simp;rfl));(case hp=>exact (Reps.none _ _));intro vL wL hoL hbL hgL hnL;have n0_:=ζa (blk_grown Bgh.out hgL (by simp));clear Bgh HB;have Bgh:=n0_;have HB:=ζa hbL;have HOA:=ζa hoL;clear n0_ hoL hbL hgL hnL)
  | ((with_reducible refine δx (N:=13) rfl ?_);refine Kd.R_append_rows (w0:=w) (Rr:=(Kd.int .u8).K wL) (Kd.int .u8) w.heap.size ?hg (.tmp 11) (.tmp 12) 22 5 (.int .u8 0) 1 rfl Tryz.underlying22 info5 rfl (by decide) (by decide) vL [] L A L.length ca (fun _=>True) (fun _=>False) rfl rfl HOA.out (Kd.C_below HL.out HB.out) (fun x cs h=>h) (fun _ h=>h.elim) (fun _ _=>trivial) HB.out HB.out.size (by have:=HN.out;simp only [List.length_nil];omega) ?_;(case hg=>rfl);intro vM wM hoM hbM hgM hnM;have n0_:=ζa (blk_grown Bgh.out hgM (ζf HOA.out Bgh.out (by decide)));have n1_:=ζa (hbM);clear Bgh HB;have Bgh:=n0_;have HB:=n1_;clear n0_ n1_;clear HOA;have HOA:=ζa hoM;clear hoM hbM hgM hnM)
  | ((with_reducible refine δx (N:=14) rfl ?_);refine lit_event1 ?hg (n:=1) (N:=14) ?hd (cs:=#[.int .u8 128]) (t:=5) ?hr ?_;(case hd=>rfl);(case hg=>rfl);(case hr=>first|(go_simp;done)|(go_simp;rfl));intro g1 hgl w1 hbox hb;have Gg1:=ζa ((by rw [hgl];exact δs (show Below w.heap.size w _ from by repeat (first|exact HB.out|apply δk|apply δi|apply δj))):w.heap.size≤g1);have n0_:=ζa (blk_below Bgh.out hb);have n1_:=ζa (ζh HOA.out hb);have n2_:=ζa (δr (by repeat (first|exact HB.out|apply δk|apply δi|apply δj)) hb);clear Bgh HOA HB;have Bgh:=n0_;have HOA:=n1_;have HB:=n2_;clear n0_ n1_ n2_;have Bg1:=ζa hbox;clear hb hbox hgl)
  | ((with_reducible refine δx (N:=15) rfl ?_);refine Kd.R_append_rows (w0:=w) (Rr:=(Kd.int .u8).K w1) (Kd.int .u8) w.heap.size ?hg (.tmp 13) (.tmp 14) 22 5 (.int .u8 0) 1 rfl Tryz.underlying22 info5 rfl (by decide) (by decide) vM ([] ++ L) [128] (some ⟨g1,0,none⟩) 1 1 (fun _=>True) (fun _=>False) rfl rfl HOA.out (C_one8 Bg1.out) (fun x cs h=>h) (fun _ h=>h.elim) (fun _ _=>trivial) HB.out HB.out.size (by have:=HN.out;simp only [List.length_nil,List.nil_append];omega) ?_;(case hg=>rfl);intro vA wA hoM hbM hgM hnM;have n0_:=ζa (blk_grown Bgh.out hgM (ζf HOA.out Bgh.out (by decide)));have n1_:=ζa (hbM);clear Bgh HB;have Bgh:=n0_;have HB:=n1_;clear n0_ n1_;clear HOA;have HOA:=ζa hoM;clear hoM hbM hgM hnM))
 obtain ⟨X,hX⟩ : ∃ l:List Int,l=([] ++ L) ++ [128]:=⟨_,rfl⟩
 rw [← hX] at HOA
 have lX:X.length=L.length+1:=by rw [hX];simp
 obtain ⟨c,hc⟩ : ∃ c:Nat,c=(119 - L.length % 64) % 64:=⟨_,rfl⟩
 have HX:=ζa hX
 have LX:=ζa lX
 have HC:=ζa hc
 clear hX lX hc
 go_loopg [4] c (fun kq v4 w' => ∃ m:Nat,Aside0 (m+kq=c)∧Aside0 (Kd.R (Kd.int .u8) 5 w' w.heap.size (fun _=>True) v4 (X ++ List.replicate m 0))∧Aside0 (w'.heap[gh]? = some (.cells ((spec_l01Hash.h0.map (Value.int .u32)).toArray) 112 (0,0)))∧Aside0 (Below w.heap.size w w'))
 case atStart=>exact ⟨0,⟨by omega⟩,⟨by rw [List.replicate_zero,List.append_nil];exact HOA.out⟩,Bgh,HB⟩
 case round =>
  clear HOA Bgh HB
  obtain ⟨m,HI,HOA,Bgh,HB⟩:=hrel
  obtain ⟨Y,hY⟩ : ∃ l:List Int,l=X ++ List.replicate m 0:=⟨_,rfl⟩
  rw [← hY] at HOA
  have lY:Y.length=L.length+1+m:=by rw [hY,List.length_append,List.length_replicate,LX.out]
  obtain ⟨Av,cv,ev⟩:=Kd.R_slice HOA.out
  subst ev
  obtain ⟨n,hn⟩ : ∃ n:Nat,n=Y.length:=⟨_,rfl⟩
  have HY:=ζa hY
  have LY:=ζa lY
  have HNN:=ζa hn
  cases gk with
  | succ k1 =>
   have hne:(n:Int) % 64≠56:=by have:=HI.out;have:=HC.out;rw [hn,lY];omega
   rw [← hn]
   rw [← hn] at HOA
   have LB:=ζa (show Y.length≤2000000 by have:=HN.out;have:=HI.out;have:=HC.out;omega)
   clear hY lY hn
   have c1:decide ((n:Int) % 64=56)=φ:=decide_eq_false hne
   have c2:((n:Int) % 64 != 56)=τ:=bne_iff_ne.mpr hne
   have c3:((n:Int) % 64 == 56)=φ:=beq_eq_false_iff_ne.mpr hne
   have c4:((n:Int) % 64=56)=False:=eq_false hne
   go_wp2_with (first
    | ((with_reducible refine δx (N:=21) rfl ?_);refine lit_event1 ?hg (n:=1) (N:=21) ?hd (cs:=#[.int .u8 0]) (t:=5) ?hr ?_;(case hd=>rfl);(case hg=>rfl);(case hr=>first|(go_simp;done)|(go_simp;rfl));intro g2 hgl w2 hbox hb;have Gg2:=ζa ((by rw [hgl];exact δs (show Below w.heap.size w _ from by repeat (first|exact HB.out|apply δk|apply δi|apply δj))):w.heap.size≤g2);have n0_:=ζa (blk_below Bgh.out hb);have n1_:=ζa (ζh HOA.out hb);have n2_:=ζa (δr (by repeat (first|exact HB.out|apply δk|apply δi|apply δj)) hb);clear Bgh HOA HB;have Bgh:=n0_;have HOA:=n1_;have HB:=n2_;clear n0_ n1_ n2_;have Bg2:=ζa hbox;clear hb hbox hgl)
    | ((with_reducible refine δx (N:=22) rfl ?_);refine Kd.R_append_rows (w0:=w) (Rr:=(Kd.int .u8).K w2) (Kd.int .u8) w.heap.size ?hg (.tmp 20) (.tmp 21) 22 5 (.int .u8 0) 1 rfl Tryz.underlying22 info5 rfl (by decide) (by decide) (.slice Av n cv) Y [0] (some ⟨g2,0,none⟩) 1 1 (fun _=>True) (fun _=>False) rfl rfl HOA.out (C_one8 Bg2.out) (fun x cs h=>h) (fun _ h=>h.elim) (fun _ _=>trivial) HB.out HB.out.size (by have:=LB.out;omega) ?_;(case hg=>rfl);intro vB wB hoM hbM hgM hnM;have n0_:=ζa (blk_grown Bgh.out hgM (ζf HOA.out Bgh.out (by decide)));have n1_:=ζa (hbM);clear Bgh HB;have Bgh:=n0_;have HB:=n1_;clear n0_ n1_;clear HOA;have HOA:=ζa hoM;clear hoM hbM hgM hnM))
   go_roundg k1
   case measure=>omega
   case rel =>
    refine ⟨m+1,⟨by have:=HI.out;omega⟩,⟨?_⟩,Bgh,HB⟩
    have e:X ++ List.replicate (m+1) 0=Y ++ [0]:=by rw [HY.out,List.replicate_succ',List.append_assoc]
    rw [e]
    exact HOA.out
  | zero =>
   have hne:(n:Int) % 64=56:=by have:=HI.out;have:=HC.out;rw [hn,lY];omega
   rw [← hn]
   rw [← hn] at HOA
   have LB:=ζa (show Y.length≤2000000 by have:=HN.out;have:=HI.out;have:=HC.out;omega)
   clear hY lY hn
   have c1:decide ((n:Int) % 64=56)=τ:=decide_eq_true hne
   have c2:((n:Int) % 64 != 56)=φ:=by rw [hne];rfl
   have c3:((n:Int) % 64 == 56)=τ:=by rw [hne];rfl
   have c4:((n:Int) % 64=56)=True:=eq_true hne
   have hmc:m=c:=HI.out
   subst hmc
   clear hne HI
   go_wp2
   go_loopg [4,5] 8 (fun kq v4 v5 w' => ∃ j:Nat,v5 = .int .i64 (7 - (j:Int))∧Aside0 (j+kq=8)∧Aside0 (Kd.R (Kd.int .u8) 5 w' w.heap.size (fun _=>True) v4 (Y ++ spec_l01Hash.lb L.length j))∧Aside0 (w'.heap[gh]? = some (.cells ((spec_l01Hash.h0.map (Value.int .u32)).toArray) 112 (0,0)))∧Aside0 (Below w.heap.size w w'))
   case atStart=>exact ⟨0,rfl,⟨rfl⟩,⟨by rw [show spec_l01Hash.lb L.length 0 = [] from rfl,List.append_nil];exact HOA.out⟩,Bgh,HB⟩
   case round =>
    clear HOA Bgh HB c1 c2 c3 c4
    obtain ⟨j,rfl,HI,HOA,Bgh,HB⟩:=hrel
    cases gk with
    | succ k1 =>
     have hj:j<8:=by have:=HI.out;omega
     have y0:(0≤7 - (j:Int))=True:=eq_true (by omega)
     obtain ⟨i,hi⟩ : ∃ i:Nat,(i:Int)=7 - (j:Int):=⟨7 - j,by omega⟩
     rw [← hi]
     have HIJ:=ζa hi
     have HJ8:=ζa hj
     clear hi hj y0
     have i8:(i:Int)<8:=by have:=HIJ.out;have:=HJ8.out;omega
     obtain ⟨s8,hs8⟩ : ∃ x:Nat,x=8 * i:=⟨_,rfl⟩
     have e8:ζm (8 * (i:Int))=(s8:Int):=by rw [IntWalk.wrap64_in _ ⟨by omega,by omega⟩];omega
     have e9:IntKind.u64.wrap (s8:Int)=(s8:Int):=by show (s8:Int) % 18446744073709551616=_;omega
     have e10:ζm (8 * (L.length:Int))=8 * (L.length:Int):=IntWalk.wrap64_in _ ⟨by omega,by have:=HN.out;omega⟩
     have e11:(0≤(s8:Int))=True:=eq_true (by omega)
     have e12:(s8≤64)=True:=eq_true (by omega)
     have HS8:=ζa hs8
     clear hs8 i8
     go_upto_region 8 with (fail)
     go_wp2_with (first
      | ((with_reducible refine δx (N:=36) rfl ?_);refine lit_event1 ?hg (n:=1) (N:=36) ?hd (cs:=#[.int .u8 (8 * (L.length:Int) / 2 ^ s8 % 256)]) (t:=5) ?hr ?_;(case hd=>rfl);(case hg=>rfl);(case hr=>first|(go_simp;done)|(go_simp;rfl));intro g3 hgl w3 hbox hb;have Gg3:=ζa ((by rw [hgl];exact δs (show Below w.heap.size w _ from by repeat (first|exact HB.out|apply δk|apply δi|apply δj))):w.heap.size≤g3);have n0_:=ζa (blk_below Bgh.out hb);have n1_:=ζa (ζh HOA.out hb);have n2_:=ζa (δr (by repeat (first|exact HB.out|apply δk|apply δi|apply δj)) hb);clear Bgh HOA HB;have Bgh:=n0_;have HOA:=n1_;have HB:=n2_;clear n0_ n1_ n2_;have Bg3:=ζa hbox;clear hb hbox hgl)
      | ((with_reducible refine δx (N:=37) rfl ?_);refine Kd.R_append_rows (w0:=w) (Rr:=(Kd.int .u8).K w3) (Kd.int .u8) w.heap.size ?hg (.tmp 27) (.tmp 36) 22 5 (.int .u8 0) 1 rfl Tryz.underlying22 info5 rfl (by decide) (by decide) u4 (Y ++ spec_l01Hash.lb L.length j) [8 * (L.length:Int) / 2 ^ s8 % 256] (some ⟨g3,0,none⟩) 1 1 (fun _=>True) (fun _=>False) rfl rfl HOA.out (C_one8 Bg3.out) (fun x cs h=>h) (fun _ h=>h.elim) (fun _ _=>trivial) HB.out HB.out.size (by rw [List.length_append,spec_l01Hash.lb_len];have:=LB.out;have:=HJ8.out;omega) ?_;(case hg=>rfl);intro vC wC hoM hbM hgM hnM;have n0_:=ζa (blk_grown Bgh.out hgM (ζf HOA.out Bgh.out (by decide)));have n1_:=ζa (hbM);clear Bgh HB;have Bgh:=n0_;have HB:=n1_;clear n0_ n1_;clear HOA;have HOA:=ζa hoM;clear hoM hbM hgM hnM))
     go_roundg k1
     case measure=>omega
     case rel =>
      refine ⟨j+1,?_,⟨by have:=HI.out;omega⟩,⟨?_⟩,Bgh,HB⟩
      ·
       have e:ζm ((i:Int) - 1)=7 - ((j+1:Nat):Int):=by rw [IntWalk.wrap64_in _ ⟨by omega,by have:=HIJ.out;omega⟩];have:=HIJ.out;omega
       first
        | exact congrArg (Value.int .i64) e
        | (congr 1;have:=HIJ.out;omega)
      ·
       have e:Y ++ spec_l01Hash.lb L.length (j+1)=(Y ++ spec_l01Hash.lb L.length j) ++ [8 * (L.length:Int) / 2 ^ s8 % 256]:=by
        rw [HS8.out,show i=7 - j by have:=HIJ.out;omega,List.append_assoc]
        rfl
       rw [e]
       exact HOA.out
    | zero =>
     have hj:j=8:=HI.out
     subst hj
     clear HI
     obtain ⟨ALL,hALL⟩ : ∃ l:List Int,l=Y ++ spec_l01Hash.lb L.length 8:=⟨_,rfl⟩
     rw [← hALL] at HOA
     have lALL:ALL.length=L.length+1+m+8:=by rw [hALL,List.length_append,spec_l01Hash.lb_len,LY.out]
     obtain ⟨nb,hnb⟩ : ∃ q:Nat,ALL.length=64 * q:=⟨ALL.length / 64,by rw [lALL];have:=HC.out;omega⟩
     have HALL:=ζa hALL
     have LALL:=ζa lALL
     have HNB:=ζa hnb
     clear hALL lALL hnb
     obtain ⟨KK,hKK⟩ : ∃ l:List Int,spec_l01Consts.f=some l:=⟨_,rfl⟩
     have lK:KK.length=64:=by have e:=Option.some.inj hKK;rw [← e];rfl
     have HKK:=ζa hKK
     have LK:=ζa lK
     clear hKK lK
     obtain ⟨ga,ca2,eA,hga1,hga2,_⟩:=Kd.R_form HOA.out (by have:=LALL.out;omega)
     subst eA
     have CA:Aside0 (∀ q:Nat,q<ALL.length→wr.cell? ⟨ga,q,none⟩=some (.int .u8 (rd ALL (q:Int)))):=⟨fun q hq=>by
      obtain ⟨ad,e,hc⟩:=Kd.at_int (ζg HOA.out).2.2 (q:Int) (by omega) (by omega)
      injection e with e
      subst e
      rw [Int.toNat_natCast,off_zero] at hc
      exact hc⟩
     have NGA:=ζa (show ga≠gh from fun e=>ζf HOA.out Bgh.out (by decide) (by rw [e];rfl))
     have LGA:=ζa hga2
     have CAP:=ζa (ζg HOA.out).2.1
     clear hga1 hga2
     go_wp2_with (first
      | ((with_reducible refine δx (N:=38) rfl ?_);refine goesL_ (some 38) rfl rfl Tryz.func121 (by kernel_rfl) rfl #[] rfl (by (try simp only [δd,δe,δf]);first|done|rfl) ?_;(with_reducible refine (spec_l01Consts.calls _ _ HKK.out).mono ?_);rintro e wk ⟨vk,rfl,hok,hb⟩;refine ⟨_,rfl,?_⟩;obtain ⟨gq,ckk,eK,hgk1,hgk2,_⟩:=Kd.R_form hok (by have:=LK.out;omega);subst eK;have NGK:=ζa (show gq≠gh by have:=blk_lt Bgh.out;omega);have CK:Aside0 (∀ q:Nat,q<64→wk.cell? ⟨gq,q,none⟩=some (.int .u32 (rd KK (q:Int)))):=⟨fun q hq=>by (obtain ⟨ad,e,hc⟩:=Kd.at_int (ζg hok).2.2 (q:Int) (by omega) (by have:=LK.out;omega));injection e with e;subst e;rw [Int.toNat_natCast,off_zero] at hc;exact hc⟩;have LGK:=ζa hgk2;have n0_:Aside0 (∀ q:Nat,q<ALL.length→wk.cell? ⟨ga,q,none⟩=some (.int .u8 (rd ALL (q:Int)))):=⟨fun q hq=>(hb.cell (World.block_lt_of_cell? _ _ (CA.out q hq))).trans (CA.out q hq)⟩;have n1_:=ζa (blk_below Bgh.out hb);have n2_:=ζa (δr HB.out hb);have n3_:=ζa (Nat.lt_of_lt_of_le LGA.out hb.size);clear CA Bgh HB LGA HOA;have CA:=n0_;have Bgh:=n1_;have HB:=n2_;have LGA:=n3_;clear n0_ n1_ n2_ n3_ hok hb))
     have lK:=LK.out
     rw [lK]
     clear lK
     go_wp2
     go_loopg [7] nb (fun kq v7 w' => ∃ i:Nat,v7 = .int .i64 ((64 * i:Nat):Int)∧Aside0 (i+kq=nb)∧Aside0 (w'.heap[gh]? = some (.cells (((spec_l01Hash.st KK spec_l01Hash.h0 ALL i).map (Value.int .u32)).toArray) 112 (0,0)))∧Aside0 (∀ q:Nat,q<ALL.length→w'.cell? ⟨ga,q,none⟩=some (.int .u8 (rd ALL (q:Int))))∧Aside0 (∀ q:Nat,q<64→w'.cell? ⟨gq,q,none⟩=some (.int .u32 (rd KK (q:Int))))∧Aside0 (ga<w'.heap.size)∧Aside0 (gq<w'.heap.size)∧Aside0 (Below w.heap.size w w'))
     case atStart=>exact ⟨0,rfl,⟨by omega⟩,Bgh,CA,CK,LGA,LGK,HB⟩
     case round =>
      clear Bgh CA CK LGA LGK HB
      obtain ⟨i,rfl,HI,Bgh,CA,CK,LGA,LGK,HB⟩:=hrel
      cases gk with
      | succ k1 =>
       have hi:=HI.out
       have hlt:64 * i<ALL.length:=by rw [HNB.out];omega
       have hsm:ALL.length≤3000000:=by rw [LALL.out];have:=HN.out;have:=HC.out;omega
       obtain ⟨a0,ha0⟩ : ∃ q:Nat,q=64 * i:=⟨_,rfl⟩
       rw [← ha0]
       rw [← ha0] at hlt
       have hle:a0+64≤ALL.length:=by rw [HNB.out,ha0];omega
       have x1:((a0:Int)<(ALL.length:Int))=True:=eq_true (by omega)
       have x2:(a0<ALL.length)=True:=eq_true hlt
       have c1:decide ((a0:Int)<(ALL.length:Int))=τ:=decide_eq_true (by omega)
       have inc:ζm ((a0:Int)+64)=(a0:Int)+64:=IntWalk.wrap64_in _ ⟨by omega,by omega⟩
       have L8:=ζa (spec_l01Hash.st_len KK spec_l01Hash.h0 ALL spec_l01Hash.h0_len i)
       have hcap:=CAP.out
       have y1:(a0+64≤ca2)=True:=eq_true (by omega)
       have y2:((a0:Int)+64≤(ca2:Int))=True:=eq_true (by omega)
       have y3:(ca2=a0)=False:=eq_false (by omega)
       have HBC:Aside0 (∀ q:Nat,q<64→wr.cell? ((⟨ga,a0,none⟩:Addr).add q)=some (.int .u8 (rd ((ALL.drop a0).take 64) (q:Int)))):=⟨fun q hq=>by rw [off_add,rd_sub hq];exact CA.out (a0+q) (by omega)⟩
       have HKC:Aside0 (∀ q:Nat,q<64→wr.cell? ((⟨gq,0,none⟩:Addr).add q)=some (.int .u32 (rd KK (q:Int)))):=⟨fun q hq=>by rw [off_zero];exact CK.out q hq⟩
       have HA0:=ζa ha0
       have HLE:=ζa hle
       clear hi hlt hsm ha0 hle hcap
       go_upto_region 13 with (fail)
       go_wp2_with (first
        | (go_at_call 122;refine (spec_l01Block.run gh (ca2 - a0) ckk ⟨ga,a0,none⟩ ⟨gq,0,none⟩ (spec_l01Hash.st KK spec_l01Hash.h0 ALL i) ((ALL.drop a0).take 64) KK w wr Bgh.out L8.out HBC.out HKC.out HB.out Ggh.out).mono ?_;rintro e wl ⟨rfl,hH',hB',hFR,hSZ⟩;have n0_:=ζa hH';have n1_:=ζa hB';have n2_:Aside0 (∀ q:Nat,q<ALL.length→wl.cell? ⟨ga,q,none⟩=some (.int .u8 (rd ALL (q:Int)))):=⟨fun q hq=>(cell_same (hFR ga LGA.out NGA.out)).trans (CA.out q hq)⟩;have n3_:Aside0 (∀ q:Nat,q<64→wl.cell? ⟨gq,q,none⟩=some (.int .u32 (rd KK (q:Int)))):=⟨fun q hq=>(cell_same (hFR gq LGK.out NGK.out)).trans (CK.out q hq)⟩;have n4_:=ζa (Nat.lt_of_lt_of_le LGA.out hSZ);have n5_:=ζa (Nat.lt_of_lt_of_le LGK.out hSZ);clear HBC HKC;clear Bgh HB CA CK LGA LGK;have Bgh:=n0_;have HB:=n1_;have CA:=n2_;have CK:=n3_;have LGA:=n4_;have LGK:=n5_;clear n0_ n1_ n2_ n3_ n4_ n5_ hH' hB' hFR hSZ))
       go_roundg k1
       case measure=>omega
       case rel =>
        refine ⟨i+1,?_,⟨by have:=HI.out;omega⟩,⟨?_⟩,CA,CK,LGA,LGK,HB⟩
        ·
         first
          | (congr 1;have:=HA0.out;omega)
          | (rw [inc];congr 1;have:=HA0.out;omega)
        ·
         have e:spec_l01Hash.st KK spec_l01Hash.h0 ALL (i+1)=spec_l01Block.v (spec_l01Hash.st KK spec_l01Hash.h0 ALL i) ((ALL.drop a0).take 64) KK:=by rw [HA0.out];rfl
         rw [e]
         exact Bgh.out
      | zero =>
       have hi:i=nb:=HI.out
       subst hi
       clear HI
       obtain ⟨ST,hST⟩ : ∃ l:List Int,l=spec_l01Hash.st KK spec_l01Hash.h0 ALL i:=⟨_,rfl⟩
       rw [← hST] at Bgh
       have L8:=ζa (show ST.length=8 by rw [hST];exact spec_l01Hash.st_len KK spec_l01Hash.h0 ALL spec_l01Hash.h0_len i)
       have HST:=ζa hST
       have hx:(64 * i:Nat)=ALL.length:=HNB.out.symm
       rw [hx]
       clear hST hx CA CK LGA LGK
       go_wp2_with (first
        | ((with_reducible refine δx (N:=53) rfl ?_);refine Kd.R_lit (Kd.int .u8) w.heap.size 5 ?hg (N:=53) ?hd (w0:=w) (xs:=([]:List Int)) (inner:=[]) (ok:=fun _=>True) (okp:=fun _=>True) ?hr ?hp (fun _ hk=>hk) trivial HB.out HB.out.size (by simp) ?_;(case hd=>rfl);(case hg=>rfl);(case hr=>first|(go_simp;done)|(go_simp;rfl));(case hp=>exact (Reps.none _ _));intro vO wO hoL hbL hgL hnL;have n0_:=ζa (blk_grown Bgh.out hgL (by simp));clear Bgh HB;have Bgh:=n0_;have HB:=ζa hbL;have HOO:=ζa hoL;clear n0_ hoL hbL hgL hnL))
       go_loopg [8,9] 8 (fun kq v8 v9 w' => ∃ j:Nat,v9 = .int .i64 (j:Int)∧Aside0 (j+kq=8)∧Aside0 (Kd.R (Kd.int .u8) 5 w' w.heap.size (fun _=>True) v8 (spec_l01Hash.ol ST j))∧Aside0 (w'.heap[gh]? = some (.cells ((ST.map (Value.int .u32)).toArray) 112 (0,0)))∧Aside0 (Below w.heap.size w w'))
       case atStart=>exact ⟨0,rfl,⟨rfl⟩,HOO,Bgh,HB⟩
       case round =>
        clear HOO Bgh HB
        obtain ⟨j,rfl,HI,HOO,Bgh,HB⟩:=hrel
        cases gk with
        | succ k1 =>
         have hi:=HI.out
         have hi8:(j:Int)<8:=by omega
         have c8:decide ((j:Int)<8)=τ:=decide_eq_true hi8
         have x8:((j:Int)<8)=True:=eq_true hi8
         have z0:(0≤(j:Int))=True:=eq_true (by omega)
         have INC:=ζa (show ζm ((j:Int)+1)=((j+1:Nat):Int) by rw [IntWalk.wrap64_in _ ⟨by omega,by omega⟩];rfl)
         have H8:=ζa hi8
         clear hi hi8
         go_upto_region 18 with (fail)
         try go_wp2
         have n0_:=ζa (δp Bgh.out)
         have n1_:=ζa (ζe HOO.out)
         have n2_:=ζa (δj HB.out)
         clear Bgh HOO HB
         have Bgh:=n0_
         have HOO:=n1_
         have HB:=n2_
         clear n0_ n1_ n2_
         refine sta 27 (fun w'=>w'.cell? ⟨gh,j,none⟩=some (.int .u32 (rd ST (j:Int)))) [] spec_l01Hash.tab18 spec_l01Hash.bits18 ((δl Bgh.out j).trans (arr_get (by have:=L8.out;have:=H8.out;omega))) (fun hHeld HT_ HW_ => ?_)
         generalize wr.drew=wd_ at Bgh HOO HB hHeld ⊢
         refine pu 0 58 ?_
         refine pu 1 59 ?_
         refine pu 2 60 ?_
         refine pu 3 61 ?_
         refine ta 4 62 ?_
         refine pu 5 63 ?_
         refine pu 6 64 ?_
         refine pu 7 65 ?_
         refine pu 8 66 ?_
         refine pu 9 67 ?_
         refine ta 10 68 ?_
         refine pu 11 69 ?_
         refine pu 12 70 ?_
         refine pu 13 71 ?_
         refine pu 14 72 ?_
         refine pu 15 73 ?_
         refine ta 16 74 ?_
         refine pu 17 75 ?_
         refine pu 18 76 ?_
         refine pu 19 77 ?_
         refine pu 20 78 ?_
         refine pu 21 79 ?_
         refine ta 22 80 ?_
         refine pu 23 81 ?_
         refine on 24 82 (fun K hK => ?_)
         refine lit_step ?hg (n:=4) (N:=82) ?hd (cs:=#[.int .u8 (IntKind.u8.wrap (rd ST (j:Int) / 16777216)),.int .u8 (IntKind.u8.wrap (rd ST (j:Int) / 65536)),.int .u8 (IntKind.u8.wrap (rd ST (j:Int) / 256)),.int .u8 (IntKind.u8.wrap (rd ST (j:Int)))]) (t:=5) ?hr ?_
         (case hd=>rfl)
         (case hg=>rfl)
         (case hr=>(go_simp;done))
         intro g4 hgl w4 hbox hb
         have n0_:=ζa (blk_below Bgh.out hb)
         have n1_:=ζa (ζh HOO.out hb)
         have n2_:=ζa (δr (by repeat (exact HB.out)) hb)
         clear Bgh HOO HB
         have Bgh:=n0_
         have HOO:=n1_
         have HB:=n2_
         clear n0_ n1_ n2_
         have Bg4:=ζa hbox
         clear hb hbox hgl
         refine hK.out _ _ ((δl Bgh.out j).trans (arr_get (by have:=L8.out;have:=H8.out;omega))) (fun hHeld => ?_)
         clear hK K
         refine nm 82 ?_
         refine on 25 83 (fun K hK => ?_)
         refine Kd.R_append_rows_step (Kd.int .u8) (w0:=w) (Rr:=(Kd.int .u8).K w4) w.heap.size (by rfl) (.tmp 58) (.tmp 82) 22 5 (.int .u8 0) 1 rfl Tryz.underlying22 info5 rfl (by decide) (by decide) u8 (spec_l01Hash.ol ST j) [IntKind.u8.wrap (rd ST (j:Int) / 16777216),IntKind.u8.wrap (rd ST (j:Int) / 65536),IntKind.u8.wrap (rd ST (j:Int) / 256),IntKind.u8.wrap (rd ST (j:Int))] (some ⟨g4,0,none⟩) 4 4 (fun _=>True) (fun _=>False) rfl rfl HOO.out (C_four8 Bg4.out) (fun x cs h=>h) (fun _ h=>h.elim) (fun _ _=>trivial) HB.out HB.out.size (by rw [spec_l01Hash.ol_len];have:=H8.out;omega) ?_
         intro vD wD hoM hbM hgM hnM
         have n0_:=ζa (blk_grown Bgh.out hgM (ζf HOO.out Bgh.out (by decide)))
         have n1_:=ζa (hbM)
         clear Bgh HB
         have Bgh:=n0_
         have HB:=n1_
         clear n0_ n1_
         clear HOO
         have HOO:=ζa hoM
         clear hoM hbM hgM hnM
         refine hK.out _ _ ((δl Bgh.out j).trans (arr_get (by have:=L8.out;have:=H8.out;omega))) (fun hHeld => ?_)
         clear hK K
         refine nm 83 ?_
         refine pu 26 8 ?_
         refine done_ (done_of HT_.out (by kernel_rfl)) ?_
         go_wp2
         go_roundg k1
         case measure=>omega
         case rel=>exact ⟨j+1,by first|rfl|rw [INC.out],⟨by have:=HI.out;omega⟩,HOO,Bgh,HB⟩
        | zero =>
         have hj:j=8:=HI.out
         subst hj
         have hcv:=own_string (P:=Tryz.prog) Tryz.underlying22 Tryz.underlying5 Tryz.underlying9 (Kd.own_of_R HOO.out)
         go_wp2
         go_ret
         refine ⟨?_,HB.out⟩
         have e:spec_l01Hash.v L=strOfNums (spec_l01Hash.ol ST 8):=by
          have eK:=HKK.out
          have eA:=HALL.out
          have eY:=HY.out
          have eX:=HX.out
          have eC:=HC.out
          have eN:=HNB.out
          have eP:spec_l01Hash.pad L=ALL:=by rw [eA,eY,eX];unfold spec_l01Hash.pad;rw [← eC]
          unfold spec_l01Hash.v
          rw [eP,eN,Nat.mul_div_cancel_left _ (by decide:0<64),eK,HST.out]
          rfl
         rw [e]
         rfl
def spec_l01Hash.f (l0:List Int):Option ByteArray:=if l0.length≤1000000 then some (spec_l01Hash.v l0) else none
theorem spec_l01Hash.calls (A0:Option Addr) (c0:Nat) (l0:List Int) (r:ByteArray) (w:World) (hr0:Kd.C (Kd.int .u8) w A0 l0.length l0) (hc0:l0.length≤c0) (h:spec_l01Hash.f l0=some r) :
  Calls Tryz.prog 80 #[.slice A0 l0.length c0] w fun e w'=>e = .returned (.string r)∧Below w.heap.size w w':=by
 unfold spec_l01Hash.f at h
 split at h
 ·
  rename_i hc
  cases h
  exact spec_l01Hash.run A0 c0 l0 w hr0 hc0 hc
 · cases h


open Go.Proofs.YtggemblkhckbpaaGreatDoorW.PrintWords renaming gate_dst → δx, below_step → δr, blk_cell → δl, blk_frozen → δm, below_size → δs
open Go.Proofs.YtggemblkhckbpaaGreatDoorW.PrintWords.Kd renaming R_ne → ζf
set_option maxHeartbeats 8000000
set_option maxRecDepth 100000

/-! ### spec_l07Bytes: function 81 -/
def spec_l07Bytes.f (a0_0:Int) (a0_1:Int) (a0_2:ByteArray):Option (List Int):=(some (([(a0_0) % 256,(a0_1) % 256]:List Int):List Int)).bind fun y211=>(if y211.length+a0_2.size<140737488355328 then (some (y211 ++ bytesOf a0_2)) else (none))
theorem spec_l07Bytes.calls (a0_0:Int) (a0_1:Int) (a0_2:ByteArray) (r:List Int) (w:World) (h:spec_l07Bytes.f a0_0 a0_1 a0_2=some r) :
  Calls Tryz.prog 81 #[.agg #[.int .i64 a0_0,.int .i64 a0_1,.string a0_2]] w fun e w' => ∃ v0_:Value,e = .returned (v0_)∧Kd.R (Kd.int .u8) 5 w' w.heap.size (fun _=>True) v0_ r∧Below w.heap.size w w':=by
 have hu36:=Tryz.underlying36
 have HB:=ζa (Below.refl w.heap.size w)
 have H:((some (([(a0_0) % 256,(a0_1) % 256]:List Int):List Int)).bind fun y211=>(if y211.length+a0_2.size<140737488355328 then (some (y211 ++ bytesOf a0_2)) else (none)))=some r:=h
 clear h
 obtain ⟨y211,hy211⟩ : ∃ y_:List Int,y_=(([(a0_0) % 256,(a0_1) % 256]:List Int)):=⟨_,rfl⟩
 replace H:(if y211.length+a0_2.size<140737488355328 then (some (y211 ++ bytesOf a0_2)) else (none))=some r:=by (have H2_:=(Option.bind_some _ _).symm.trans H;rw [hy211];with_reducible exact H2_)
 have Ny211:=ζa hy211
 clear hy211
 by_cases c2:y211.length+a0_2.size<140737488355328
 ·
  rw [if_pos c2] at H
  have LMc2:=ζa c2
  clear c2
  obtain ⟨y214,hy214⟩ : ∃ y_:List Int,y_=(y211 ++ bytesOf a0_2):=⟨_,rfl⟩
  replace H:(some y214)=some r:=by (rw [hy214];with_reducible exact H)
  have Ny214:=ζa hy214
  clear hy214
  obtain rfl:=Option.some.inj H
  go_enter Tryz.func81,Tryz.ntmps81
  go_wp2_with (first|((with_reducible refine δx (N:=1) rfl ?_);refine bev 1 #[.int .i64 a0_0,.int .i64 a0_1,.string a0_2] 36 ?_;intro gb210 hg w3 hbox hb;have BK210:=ζa (hbox);have GW210:=ζa (gbw hg (by exact HB.out));have GE210:=ζa (gbw hg (by exact HB.out));replace HB:=ζa (δr (by exact HB.out) hb);clear hb hbox hg;have hcz4_0:w3.cell? ⟨gb210,0,none⟩=some (.int .i64 a0_0):=(δl BK210.out 0).trans rfl;have hcz4_1:w3.cell? ⟨gb210,1,none⟩=some (.int .i64 a0_1):=(δl BK210.out 1).trans rfl;have hcz4_2:w3.cell? ⟨gb210,2,none⟩=some (.string a0_2):=(δl BK210.out 2).trans rfl;have hfz4_0:=δm BK210.out 0;have hfz4_1:=δm BK210.out 1;have hfz4_2:=δm BK210.out 2)|((with_reducible refine δx (N:=9) rfl ?_);refine Kd.R_lit (Kd.int .u8) _ 5 ?hg (N:=9) ?hd (xs:=([(a0_0) % 256,(a0_1) % 256]:List Int)) (inner:=[.int .u8 ((a0_0) % 256),.int .u8 ((a0_1) % 256)]) (ok:=fun _=>True) (okp:=fun _=>True) ?hr ?hp (fun _ hk=>hk) trivial (Below.refl _ _) (Nat.le_refl _) (by simp) ?_;(case hd=>rfl);(case hg=>rfl);(case hr=>(go_simp;done));(case hp=>exact (Reps.one (show Kd.M (Kd.int .u8) _ _ _ ((a0_0) % 256) [.int .u8 ((a0_0) % 256)] from rfl) (Reps.one (show Kd.M (Kd.int .u8) _ _ _ ((a0_1) % 256) [.int .u8 ((a0_1) % 256)] from rfl) (Reps.none _ _))));intro v212 w5 ho6 hb hg_ hnew_;clear hg_ hnew_;(rw [← Ny211.out] at ho6);have HO213:=ζa (Kd.R_lower ho6 (δs (by exact HB.out)));replace BK210:=ζa (blk_below (g:=gb210) (o:=.cells #[.int .i64 a0_0,.int .i64 a0_1,.string a0_2] 36 (0,0)) (by exact BK210.out) hb);replace HB:=ζa (δr (by exact HB.out) hb);clear hb ho6;have hcz7_0:w5.cell? ⟨gb210,0,none⟩=some (.int .i64 a0_0):=(δl BK210.out 0).trans rfl;have hcz7_1:w5.cell? ⟨gb210,1,none⟩=some (.int .i64 a0_1):=(δl BK210.out 1).trans rfl;have hcz7_2:w5.cell? ⟨gb210,2,none⟩=some (.string a0_2):=(δl BK210.out 2).trans rfl;have hfz7_0:=δm BK210.out 0;have hfz7_1:=δm BK210.out 1;have hfz7_2:=δm BK210.out 2)|(at_builtin;refine print_append_str (w0:=w) w.heap.size rfl (.tmp 9) _ 22 9 5 rfl Tryz.underlying22 Tryz.underlying9 info5 v212 y211 a0_2 rfl rfl ?aO ?aB ?aS ?aL ?_;(case aB=>exact (by exact HB.out));(case aO=>exact (Kd.own_of_R (by exact HO213.out)));(case aS=>exact (δs (by exact HB.out)));(case aL=>have:=LMc2.out;omega);intro v215 w8 ho0 hb hg;have ho:=Kd.R_of_own (h1:=fun _=>rfl) (ok:=fun _=>True) ho0 (fun _ _=>trivial);clear ho0;have hat:=True.intro;rw [← Ny214.out] at ho;change Kd.R (Kd.int .u8) 5 w8 w.heap.size (fun _=>True) v215 y214 at ho;have n0_:=ζa (blk_grown (g:=gb210) (o:=.cells #[.int .i64 a0_0,.int .i64 a0_1,.string a0_2] 36 (0,0)) (by exact BK210.out) hg (ζf HO213.out BK210.out (by decide)));have n1_:=ζa (hb);have n2_:=ζa (ho);clear BK210;clear HB;clear HO213;have BK210:=n0_;have HB:=n1_;have HO216:=n2_;clear n0_ n1_ n2_;clear ho hb hg hat))
  go_ret
  exact ⟨_,by rfl,by exact HO216.out,by repeat ((with_reducible exact HB.out))⟩
 ·
  rw [if_neg c2] at H
  exact absurd H (by simp)


open Go.Proofs.YtggemblkhckbpaaGreatDoorW.PrintWords renaming gate_dst → δx, blk_cell → δl, below_step → δr
set_option maxHeartbeats 8000000
set_option maxRecDepth 100000


/-! ### spec_l07Hash: function 40 -/
theorem C_bytes7 {w:World} {g:Nat} {t:Nat} {fr:Nat × Nat} (xs:List Int) (hl:xs.length≤1000) (h:w.heap[g]? = some (.cells (nums .u8 xs).toArray t fr)):Kd.C (Kd.int .u8) w (some ⟨g,0,none⟩) xs.length xs:=by
 refine ⟨rfl,by omega,fun _=>⟨_,rfl,fun j p hj=>⟨[.int .u8 p],rfl,rfl,fun i v hi => ?_⟩⟩⟩
 obtain ⟨rfl,rfl⟩:i=0∧v = .int .u8 p:=by
  cases i with
  | zero=>exact ⟨rfl,by simpa using hi.symm⟩
  | succ n=>simp at hi
 have hg:w.cell? ⟨g,j,none⟩=(nums .u8 xs).toArray[j]?:=by simp [World.cell?,h]
 show w.cell? ((⟨g,0,none⟩:Addr).add (j * 1+0))=_
 rw [show j * 1+0=j by omega,add_plain,hg]
 simp [nums,hj]
def spec_l07Hash.f (a0_0 a0_1:Int) (a0_2:ByteArray):Option ByteArray:=(spec_l07Bytes.f a0_0 a0_1 a0_2).bind fun b=>if 0<b.length∧b.length≤2000005 then spec_l01Hash.f ([112,97,99,107,101,116] ++ b) else none
theorem spec_l07Hash.calls (a0_0 a0_1:Int) (a0_2:ByteArray) (r:ByteArray) (w:World) (h:spec_l07Hash.f a0_0 a0_1 a0_2=some r) :
  Calls Tryz.prog 40 #[.agg #[.int .i64 a0_0,.int .i64 a0_1,.string a0_2]] w fun e w'=>e = .returned (.string r)∧Below w.heap.size w w':=by
 obtain ⟨b,h1,h2⟩:=Option.bind_eq_some_iff.mp h
 split at h2
 rotate_left
 · cases h2
 rename_i L
 have H1:=ζa h1
 have H2:=ζa h2
 have HL:=ζa L
 clear h h1 h2 L
 have HB:=ζa (Below.refl w.heap.size w)
 go_enter Tryz.func40,Tryz.ntmps40
 go_wp2_with (first
  | ((with_reducible refine δx (N:=1) rfl ?_);refine bx w 1 #[.int .i64 a0_0,.int .i64 a0_1,.string a0_2] 36 ?_;intro gb w1 BK GE HB hb;clear hb)
  | ((with_reducible refine δx (N:=4) rfl ?_);refine cv8 w 4 (.tmp 3) 22 5 _ 6 6 Tryz.underlying22 Tryz.underlying5 ?_;intro w2 BC HB hb;replace BK:=ζa (blk_below BK.out hb);clear hb;have hz0:=(δl BK.out 0).trans rfl;have hz1:=(δl BK.out 1).trans rfl;have hz2:=(δl BK.out 2).trans rfl)
  | (go_at_call 81;refine (spec_l07Bytes.calls a0_0 a0_1 a0_2 b _ H1.out).mono ?_;rintro e w3 ⟨v6,rfl,ho,hb⟩;replace BC:=ζa (blk_below BC.out hb);have ho':=Kd.R_lower ho HB.out.size;obtain ⟨A6,c6,rfl,hl6,hq6⟩:=Kd.R_reads ho';have HB':=ζa (δr HB.out hb);have HQ:=ζa hq6;clear HB ho ho' hb hl6 hq6 hz0 hz1 hz2;have HB:=HB')
  | ((with_reducible refine δx (N:=7) rfl ?_);refine ap8 w 7 (.tmp 4) (.tmp 6) 22 5 (some ⟨w1.heap.size,0,none⟩) A6 c6 [112,97,99,107,101,116] b Tryz.underlying22 info5 (C_bytes7 [112,97,99,107,101,116] (by simp) BC.out) HQ.out (by simp) HL.out.1 (by have:=HL.out;simp;omega) ?_;intro v7 w4 HO HB hb;obtain ⟨A7,c7,rfl,hl7,hq7⟩:=Kd.R_reads HO.out;have HC7:=ζa hl7;have HQ7:=ζa hq7;clear hl7 hq7 hb))
 refine (spec_l01Hash.calls A7 c7 ([112,97,99,107,101,116] ++ b) r _ HQ7.out HC7.out H2.out).mono ?_
 rintro e w5 ⟨rfl,hb⟩
 go_wp2
 go_ret
 exact ⟨rfl,δr HB.out hb⟩


set_option maxHeartbeats 8000000
set_option maxRecDepth 100000

/-! ### spec_l03Get: function 115 -/
def spec_l03Get.f (k:Nat) (l0:List (S61)) (a1:ByteArray):Option (ByteArray × Bool):=(spec_l03At.f k l0 a1).bind fun t218=>(if t218<(l0.length:Int) then (if 0≤t218 then (if ((rd_T61 l0 t218).f0).toList=a1.toList then (some ((rd_T61 l0 t218).f1,τ)) else (some ((⟨#[]⟩:ByteArray),φ))) else (none)) else (some ((⟨#[]⟩:ByteArray),φ)))
theorem spec_l03Get.calls (k:Nat) (A0:Option Addr) (c0:Nat) (l0:List (S61)) (a1:ByteArray) (r1:ByteArray) (r2:Bool) (w:World) (hr0:Kd.C k61 w A0 l0.length l0) (hc0:l0.length≤c0) (h:spec_l03Get.f k l0 a1=some (r1,r2)) :
  Calls Tryz.prog 115 #[.slice A0 l0.length c0,.string a1] w fun e w'=>e = .returned (.tuple #[.string r1,.bool r2])∧Drawn0 w w':=by
 have HR0:=ζa hr0
 have HC0:=ζa hc0
 clear hr0 hc0
 have H:((spec_l03At.f k l0 a1).bind fun t218=>(if t218<(l0.length:Int) then (if 0≤t218 then (if ((rd_T61 l0 t218).f0).toList=a1.toList then (some ((rd_T61 l0 t218).f1,τ)) else (some ((⟨#[]⟩:ByteArray),φ))) else (none)) else (some ((⟨#[]⟩:ByteArray),φ))))=some (r1,r2):=h
 clear h
 obtain ⟨t218,A3,H⟩:=bsm H
 by_cases c4:t218<(l0.length:Int)
 ·
  rw [if_pos c4] at H
  have c4b0:=decide_eq_true c4
  clear c4
  by_cases c5:0≤t218
  ·
   rw [if_pos c5] at H
   have c5b0:=decide_eq_true c5
   clear c5
   by_cases c6:((rd_T61 l0 t218).f0).toList=a1.toList
   ·
    rw [if_pos c6] at H
    have c6b0:=beq_iff_eq.mpr c6
    have c6b1:=bne_eq_false_iff_eq.mpr c6
    clear c6
    simp only [Option.some.injEq,Prod.mk.injEq] at H
    obtain ⟨rfl,rfl⟩:=H
    go_enter Tryz.func115,Tryz.ntmps115
    go_wp2_with (((with_reducible refine δv (f:=110) rfl ?_);refine gl 9 Tryz.func110 #[.slice A0 l0.length c0,.string a1] ?_;(with_reducible refine (spec_l03At.calls k _ _ l0 a1 t218 _ ?side1 ?side2 A3.out).mono ?_);(case side1=>repeat (exact HR0.out));(case side2=>exact HC0.out);rintro e w' ⟨rfl,⟨nd,rfl⟩⟩;refine ⟨_,rfl,?_⟩;have p219:0≤(t218:Int):=of_decide_eq_true (by (with_reducible assumption));have q219:t218<(l0.length:Int):=of_decide_eq_true (by (with_reducible assumption));obtain ⟨ad219,e219,hx219_0,hx219_1⟩:=at_T61 HR0.out t218 p219 q219;cases e219;replace p219:=eq_true p219;replace q219:=eq_true q219;have p220:0≤(t218:Int):=of_decide_eq_true (by (with_reducible assumption));have q220:t218<(l0.length:Int):=of_decide_eq_true (by (with_reducible assumption));obtain ⟨ad220,e220,hx220_0,hx220_1⟩:=at_T61 HR0.out t218 p220 q220;obtain rfl:ad219=ad220:=(by injection e220);replace p220:=eq_true p220;replace q220:=eq_true q220))
    go_ret2
    exact ⟨by rfl,by repeat (first|exact Drawn0.refl _|apply Drawn0.step)⟩
   ·
    rw [if_neg c6] at H
    have c6b0:=beq_eq_false_iff_ne.mpr c6
    have c6b1:=bne_iff_ne.mpr c6
    simp only [Option.some.injEq,Prod.mk.injEq] at H
    obtain ⟨rfl,rfl⟩:=H
    go_enter Tryz.func115,Tryz.ntmps115
    go_wp2_with (((with_reducible refine δv (f:=110) rfl ?_);refine gl 9 Tryz.func110 #[.slice A0 l0.length c0,.string a1] ?_;(with_reducible refine (spec_l03At.calls k _ _ l0 a1 t218 _ ?side1 ?side2 A3.out).mono ?_);(case side1=>repeat (exact HR0.out));(case side2=>exact HC0.out);rintro e w' ⟨rfl,⟨nd,rfl⟩⟩;refine ⟨_,rfl,?_⟩;have p219:0≤(t218:Int):=of_decide_eq_true (by (with_reducible assumption));have q219:t218<(l0.length:Int):=of_decide_eq_true (by (with_reducible assumption));obtain ⟨ad219,e219,hx219_0,hx219_1⟩:=at_T61 HR0.out t218 p219 q219;cases e219;replace p219:=eq_true p219;replace q219:=eq_true q219))
    go_ret2
    exact ⟨by rfl,by repeat (first|exact Drawn0.refl _|apply Drawn0.step)⟩
  ·
   rw [if_neg c5] at H
   exact absurd H (by simp)
 ·
  rw [if_neg c4] at H
  have c4b0:=decide_eq_false c4
  clear c4
  simp only [Option.some.injEq,Prod.mk.injEq] at H
  obtain ⟨rfl,rfl⟩:=H
  go_enter Tryz.func115,Tryz.ntmps115
  go_wp2_with (((with_reducible refine δv (f:=110) rfl ?_);refine gl 9 Tryz.func110 #[.slice A0 l0.length c0,.string a1] ?_;(with_reducible refine (spec_l03At.calls k _ _ l0 a1 t218 _ ?side1 ?side2 A3.out).mono ?_);(case side1=>repeat (exact HR0.out));(case side2=>exact HC0.out);rintro e w' ⟨rfl,⟨nd,rfl⟩⟩;refine ⟨_,rfl,?_⟩))
  go_ret2
  exact ⟨by rfl,by repeat (first|exact Drawn0.refl _|apply Drawn0.step)⟩

end Go.Proofs.YtggemblkhckbpaaGreatDoor.Q
